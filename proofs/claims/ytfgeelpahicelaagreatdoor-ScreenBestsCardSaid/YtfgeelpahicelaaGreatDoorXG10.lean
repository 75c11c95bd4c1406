/- H1: contracts: screen.up, a show in memory, enter. -/
import Derived.Laws.StructEq
import Derived.Test.YtfgeelpahicelaaGreatDoorXG2
import Derived.Test.YtfgeelpahicelaaGreatDoorXG9
set_option linter.unusedVariables false
set_option linter.unusedSimpArgs false
namespace Go.Dw
open Go Go.Dx Go.Proofs
set_option maxRecDepth 100000
theorem ZEi {a b:Int}(ha:0<=a)(hb:1<=b):0<=upS a b/\upS a b<=a+b:=by
 unfold upS;have h1:=Int.ediv_nonneg (show 0<=a+b-1 by omega) (show 0<=b by omega);have h2:=Int.ediv_le_self b (show 0<=a+b-1 by omega);omega
theorem ZMT {a b:Int}(ha:0<=a)(hb:1<=b):(a+b-1).tdiv b=upS a b:=Int.tdiv_eq_ediv_of_nonneg (by omega)
theorem ZC3 {a:Int}(ha:0<=a):a.tdiv 1440=a / 1440:=Int.tdiv_eq_ediv_of_nonneg ha
theorem ZQu {a b:Int}(ha:0<=a)(ha':a<=1000000000)(hb:1<=b)(hb':b<=10000)(h:Heap):Sv Tryz.prog 141 [i64 a,i64 b] h (RetP fun v h'=>v=i64 (upS a b)/\h'=h):=by
 have e:=ZMT ha hb;have hr:=ZEi ha hb;refine ZAH Tryz.func141 rfl (by rw[Tryz.ntmps141];rfl) ?_;show Wc Tryz.prog ⟨141,11,none⟩ _ _ _ _ _;refine zy ?_;refine ZAI rfl rfl rfl rfl (ZHh rfl rfl (by omega) e (by omega) (by omega)) ?_;refine zy ?_;exact ZAC (ZAD rfl ⟨rfl,rfl⟩)
theorem ZGX {a b:Int}(ha:0<=a)(ha':a<=1000000000)(hb:1<=b)(hb':b<=10000)(h:Heap):Sv Tryz.prog 142 [i64 a,i64 b] h (RetP fun v h'=>v=i64 (upS a b)/\h'=h):=by
 have e:=ZMT ha hb;have hr:=ZEi ha hb;refine ZAH Tryz.func142 rfl (by rw[Tryz.ntmps142];rfl) ?_;show Wc Tryz.prog ⟨142,11,none⟩ _ _ _ _ _;refine zy ?_;refine ZAI rfl rfl rfl rfl (ZHh rfl rfl (by omega) e (by omega) (by omega)) ?_;refine zy ?_;exact ZAC (ZAD rfl ⟨rfl,rfl⟩)
def ZGr (t:ScT)(s:ScS)(bH:Nat):List Value:=[i64 s.venue,i64 s.print,i64 s.pack,i64 s.minute,i64 s.speed,i64 s.worth,.pointer (some ⟨bH,0,none⟩),str (ZEs t s),str (ZEq t s),
 str (ZAr t s).name,i64 (ZAr t s).land,i64 (ZAr t s).proj,i64 (ZAr t s).speeds.lo,i64 (ZAr t s).speeds.hi,i64 (ZAr t s).change,i64 (ZAr t s).spool,i64 (ZAr t s).turn,.bool (ZAr t s).digital,i64 (endS t s),i64 (ZDN t s).lo,i64 (ZDN t s).hi]
def ZBU (h:Heap)(b bH:Nat)(t:ScT)(s:ScS):Prop:=h.get b=some (.cells (ZGr t s bH) 156 false)
theorem ZBU.ext {h h':Heap}{b bH:Nat}{t:ScT}{s:ScS}(a:ZBU h b bH t s)(he:Ext h h'):ZBU h' b bH t s:=he.get a
theorem ZQb {P:Program}{fr:Fr}{c:Code}{m:Mem}{ds:List ADef}{h:Heap}{Q:CQ}{o:AO}(hw:WF h)(k:∀h2,Ext h h2->WF h2->h2.get h.nx=some o->Wc P fr c m ds h2 Q):Wc P fr c m ds (h.add o) Q :=
 k _ (Ext.add hw o) (hw.add o) Heap.get_add_same
theorem ZFv {h:Heap}{a:Option Addr}{t:ScT}(m3:ZAN 9 ScVR h a t.venues){s:ScS}(h0:0<=s.venue)(h1:s.venue<t.venues.length):∃b o oa,a=some ⟨b,o,oa⟩/\ZB5 h b (o+s.venue.toNat*9) 9=some [str (ZAr t s).name,i64 (ZAr t s).land,i64 (ZAr t s).proj,i64 (ZAr t s).speeds.lo,i64 (ZAr t s).speeds.hi,i64 (ZAr t s).change,i64 (ZAr t s).spool,i64 (ZAr t s).turn,.bool (ZAr t s).digital]:=by
 obtain⟨b,o,oa,e,row,hrow,hr⟩:=m3 s.venue.toNat (by omega);obtain rfl:=hr;have:ZAr t s=t.venues[s.venue.toNat]:=by unfold ZAr;rw[List.getD_eq_getElem?_getD,List.getElem?_eq_getElem (by omega)];rfl
 rw[this];exact⟨b,o,oa,e,hrow⟩
theorem ZKJ {h:Heap}{a:Option Addr}{t:ScT}(m5:ZAN 7 ScPR h a t.prints){s:ScS}(h0:0<=s.print)(h1:s.print<t.prints.length):∃b o oa,a=some ⟨b,o,oa⟩/\∃ap cp,ZB5 h b (o+s.print.toNat*7) 7=some [str (prAt t s).name,str (prAt t s).work,str (prAt t s).version,.slice ap (prAt t s).reels.length cp,i64 (prAt t s).speeds.lo,i64 (prAt t s).speeds.hi,i64 (prAt t s).land]/\ZBz h ap (prAt t s).reels:=by
 obtain⟨b,o,oa,e,row,hrow,ap,cp,hr,hI⟩:=m5 s.print.toNat (by omega);subst hr;have:prAt t s=t.prints[s.print.toNat]:=by unfold prAt;rw[List.getD_eq_getElem?_getD,List.getElem?_eq_getElem (by omega)];rfl
 rw[this];exact⟨b,o,oa,e,ap,cp,hrow,hI⟩
theorem ZL1 {h:Heap}{a:Option Addr}{t:ScT}(m6:ZAN 5 ZEV h a t.packs){s:ScS}(h0:0<=s.pack)(h1:s.pack<t.packs.length):∃b o oa,a=some ⟨b,o,oa⟩/\ZB5 h b (o+s.pack.toNat*5) 5=some [str (pkAt t s).name,str (pkAt t s).work,str (pkAt t s).version,i64 (pkAt t s).frames,i64 (pkAt t s).speed]:=by
 obtain⟨b,o,oa,e,row,hrow,hr⟩:=m6 s.pack.toNat (by omega);obtain rfl:=hr;have:pkAt t s=t.packs[s.pack.toNat]:=by unfold pkAt;rw[List.getD_eq_getElem?_getD,List.getElem?_eq_getElem (by omega)];rfl
 rw[this];exact⟨b,o,oa,e,hrow⟩
theorem ZFc {t:ScT}{s:ScS}(c1:¬(s.venue<0\/(t.venues.length:Int)-1<s.venue))(c2:decide (s.print = -1)=decide (s.pack = -1)):ZAQ t s=2:=by
 unfold ZAQ;rw[if_neg c1,if_pos (by rwa [decide_eq_decide] at c2)]
theorem ZC0 {t:ScT}{s:ScS}(c1:¬(s.venue<0\/(t.venues.length:Int)-1<s.venue))(c2:¬decide (s.print = -1)=decide (s.pack = -1))(c3:(s.print ≠ -1/\(s.print<0\/(t.prints.length:Int)-1<s.print))\/(s.pack ≠ -1/\(s.pack<0\/(t.packs.length:Int)-1<s.pack))):ZAQ t s=4:=by
 unfold ZAQ;rw[if_neg c1,if_neg (by rwa [decide_eq_decide] at c2),if_pos c3]
theorem ZAl {t:ScT}{s:ScS}(c1:¬(s.venue<0\/(t.venues.length:Int)-1<s.venue))(c2:¬decide (s.print = -1)=decide (s.pack = -1))(c3:¬((s.print ≠ -1/\(s.print<0\/(t.prints.length:Int)-1<s.print))\/(s.pack ≠ -1/\(s.pack<0\/(t.packs.length:Int)-1<s.pack)))):ZAQ t s=if (s.minute<0\/57600<s.minute)\/(s.speed<1\/60<s.speed)\/(s.worth<0\/1000000<s.worth) then 7 else 0:=by
 unfold ZAQ;rw[if_neg c1,if_neg (by rwa [decide_eq_decide] at c2),if_neg c3]
def ZQk (t:ScT)(s:ScS)(bH:Nat)(h:Heap)(v:Value)(h':Heap):Prop:=Ext h h'/\((¬ZAQ t s=0/\v=.tuple ⟨[.pointer none,i64 (ZAQ t s)]⟩)\/(ZAQ t s=0/\∃b,v=.tuple ⟨[.pointer (some ⟨b,0,none⟩),i64 0]⟩/\ZBU h' b bH t s/\h.nx<=b))
theorem ZBw {t:ScT}{s:ScS}{bH:Nat}{h h':Heap}{e:Int}(he:ZAQ t s=e)(h0:e≠0)(hE:Ext h h'):ZQk t s bH h (.tuple ⟨[.pointer none,i64 e]⟩) h':=⟨hE,.inl ⟨by rw[he];exact h0,by rw[he]⟩⟩
theorem ZQl (x0 x1 x2 x3 x4 x5:Value)(a:Option Addr)(v0 v1 v2 v3 v4 v5 v6 v7 v8:Value) :
  Instr.fill ([(0,6),(6,1),(7,1),(8,1),(9,9),(18,1),(19,2)].toArray[·]?) (Value.agg ⟨[i64 0,i64 0,i64 0,i64 0,i64 0,i64 0,.pointer none,str [],str [],str [],i64 0,i64 0,i64 0,i64 0,i64 0,i64 0,i64 0,.bool false,i64 0,i64 0,i64 0]⟩).cells [(0,.agg ⟨[x0,x1,x2,x3,x4,x5]⟩),(1,.pointer a),(4,.agg ⟨[v0,v1,v2,v3,v4,v5,v6,v7,v8]⟩)]=some ⟨[x0,x1,x2,x3,x4,x5,.pointer a,str [],str [],v0,v1,v2,v3,v4,v5,v6,v7,v8,i64 0,i64 0,i64 0]⟩:=by kernel_rfl
set_option maxHeartbeats 2000000 in
theorem ZQP {bH:Nat}{t:ScT}{s:ScS}{sr:List Value}{h:Heap}(hH:ZCu h bH t)(hO:ScOk t)(hs:s.Fit)(hr:ScSR h sr s):Sv Tryz.prog 86 [.pointer (some ⟨bH,0,none⟩),.agg ⟨sr⟩] h (RetP (ZQk t s bH h)):=by
 obtain⟨row,ag,cg,aw,cw,ht,hgH,-,-⟩:=hH;obtain⟨al,cl,at',ct,a1,c1',a2,c2',a3,c3',a4,c4',a5,c5',a6,c6',rfl,m1,m2,m3,m4,m5,m6,m7,m8⟩:=ht;replace hgH:h.get bH=some (.cells [i64 t.first,.slice al t.lands.length cl,.slice at' t.travel.length ct,.slice a1 t.venues.length c1',.slice a2 t.rights.length c2',.slice a3 t.prints.length c3',.slice a4 t.packs.length c4',.slice a5 t.keys.length c5',.slice a6 t.loans.length c6',.slice ag (ZBa t).1.length cg,.slice aw (ZBa t).2.length cw] 147 false):=hgH;obtain rfl:=hr;obtain⟨s1,s2,s3,s4,s5,s6⟩:=hs;unfold I64 at s1 s2 s3 s4 s5 s6;have q1:=hO.venues1;have q2:=hO.prints1
 have q3:=hO.packs1;have q4:=hO.first;refine ZAy fun hw=>?_;refine ZAH Tryz.func86 rfl (by rw[Tryz.ntmps86];rfl) ?_;show Wc Tryz.prog ⟨86,223,none⟩ _ _ _ _ _;refine zy ?_;refine ZAa rfl rfl rfl fun h1 hE1 hW1 hg1 hn1=>?_;have hgB:=hE1.get hgH;generalize h.nx=b1 at *;refine zy ?_
 by_cases c1:s.venue<0\/(t.venues.length:Int)-1<s.venue
 ·refine ZAJ hmix [0,1,0,4,12,28,60,124,252,508,1023,2047] [0,1,2,3,4,5,6,7,8,9] (some 10) [([],(some 11)),([],none)] (by kernel_rfl) (by kernel_rfl) ?_
  refine z_f ?_;refine z_l ?_;refine z_m ?_;refine z_q ?_;refine z_f ?_;refine z_f ?_;refine z_f ?_;refine z_l ?_;refine z_c ?_;refine z_u ?_;refine ZAF [0,1,2,3,4,5,6,7,8,9] (by kernel_rfl) rfl (ZAA rfl) rfl nb rfl (ZAs rfl rfl rfl rfl rfl Bod.h (ZOu c1 (ZA9 _ _ _ _)) ?_);refine ZAF [0,1,2,3,4,5,6,7,8,9,10] (by kernel_rfl) rfl (ZAA rfl) rfl nb rfl (ZAj rfl rfl (ZAO rfl) ?_);refine ZAM (ZAA rfl) nb' ?_;refine zy ?_;exact ZAC (ZAD rfl (ZBw (by unfold ZAQ;rw[if_pos c1]) (by decide) hE1))
 refine ZAJ hmix [0,1,0,4,12,28,60,124,252,508,1023,2047] [0,1,2,3,4,5,6,7,8,9] (some 10) [([],(some 11)),([],none)] (by kernel_rfl) (by kernel_rfl) ?_;refine z_f ?_;refine z_l ?_;refine z_m ?_;refine z_q ?_;refine z_f ?_;refine z_f ?_;refine z_f ?_;refine z_l ?_;refine z_c ?_;refine z_u ?_;refine ZAF [0,1,2,3,4,5,6,7,8,9] (by kernel_rfl) rfl (ZAA rfl) rfl nb rfl (ZAs rfl rfl rfl rfl rfl Bod.h (ZOp c1 (ZA9 _ _ _ _)) ?_);refine ZAF [0,1,2,3,4,5,6,7,8,9,10] (by kernel_rfl) rfl (ZAA rfl) rfl nb rfl (ZAj rfl rfl (ZAO rfl) ?_);refine ZAM (ZAA rfl) nb' ?_;refine zy ?_;refine ZAI rfl rfl rfl rfl (ZAX rfl rfl) ?_
 refine zy ?_;refine ZAI rfl rfl rfl rfl (ZAX rfl rfl) ?_;refine ZAE rfl rfl rfl rfl (ZQX Und.h rfl rfl) (fun c2=>?_) (fun c2=>?_)
 ·refine zy ?_
  exact ZAC (ZAD rfl (ZBw (ZFc c1 c2) (by decide) hE1))
 refine zy ?_
 by_cases hp:s.print = -1
 rotate_left
 ·have hk:s.pack = -1:=Classical.byContradiction fun hk=>c2 (by rw[decide_eq_false hp,decide_eq_false hk])
  by_cases c3:s.print<0\/(t.prints.length:Int)-1<s.print
  ·refine ZAJ hmix [0,1,3,7,15,31,15,79,207,463,975,1999,4047,8143,16383,32767,65535,131071,262143,524287,1048575,2097151,4194303,2097151,10485759,27262975,60817407,127926271,262143999,530579455,1067450367,2147483647,4294967295,8589934591,17179869183] [0,1,2,3,4,5,6,7,8,9,10,11,12,13] (some 14) [([15,16,17,18,19,20,21,22,23,24,25,26,27,28,29,30],(some 31)),([32,33],(some 34)),([],none)] (by kernel_rfl) (by kernel_rfl) ?_
   refine z_f ?_;refine z_l ?_;refine ZAB rfl rfl rfl rfl rfl (fun _=>A_tt hp (ZAb rfl rfl)) ?_;refine z_m ?_;refine g_f ?_;refine g_l ?_;refine g_m ?_;refine g_q ?_;refine g_f ?_;refine g_f ?_;refine g_f ?_;refine g_l ?_;refine g_c ?_;refine g_u ?_;refine ZAF [0,1,2,3,4,5,6,7,8,9,10,11,12,13] (by kernel_rfl) rfl (ZAA rfl) rfl nb rfl (ZAs rfl rfl rfl rfl rfl Bod.h (ZOu c3 (ZA9 _ _ _ _)) ?_);refine z_p ?_;refine z_m ?_;refine g_f ?_;refine g_l ?_;refine z_o ?_;refine g_m ?_;refine g_f ?_;refine g_l ?_;refine g_m ?_;refine g_q ?_;refine g_f ?_;refine g_f ?_;refine g_f ?_;refine g_l ?_;refine g_c ?_;refine g_u ?_
   refine ZAF [0,1,2,3,4,5,6,7,8,9,10,11,12,13,14,15,16,17,18,19,20,21,22,23,24,25,26,27,28,29,30] (by kernel_rfl) rfl (ZAA rfl) rfl nb rfl (ZBP rfl ?_);refine g_p ?_;refine z_p ?_;refine ZAF [0,1,2,3,4,5,6,7,8,9,10,11,12,13,14,15,16,17,18,19,20,21,22,23,24,25,26,27,28,29,30,31,32,33] (by kernel_rfl) rfl (ZAA rfl) rfl nb rfl (ZAj rfl rfl (ZAO rfl) ?_);refine ZAM (ZAA rfl) nb' ?_;refine zy ?_;exact ZAC (ZAD rfl (ZBw (ZC0 c1 c2 (.inl ⟨hp,c3⟩)) (by decide) hE1))
  refine ZAJ hmix [0,1,3,7,15,31,15,79,207,463,975,1999,4047,8143,16383,32767,65535,131071,262143,524287,1048575,2097151,4194303,2097151,10485759,27262975,60817407,127926271,262143999,530579455,1067450367,2147483647,4294967295,8589934591,17179869183] [0,1,2,3,4,5,6,7,8,9,10,11,12,13] (some 14) [([15,16,17,18,19,20,21,22,23,24,25,26,27,28,29,30],(some 31)),([32,33],(some 34)),([],none)] (by kernel_rfl) (by kernel_rfl) ?_;refine z_f ?_;refine z_l ?_;refine ZAB rfl rfl rfl rfl rfl (fun _=>A_tt hp (ZAb rfl rfl)) ?_;refine z_m ?_;refine g_f ?_;refine g_l ?_;refine g_m ?_;refine g_q ?_;refine g_f ?_;refine g_f ?_;refine g_f ?_;refine g_l ?_;refine g_c ?_;refine g_u ?_
  refine ZAF [0,1,2,3,4,5,6,7,8,9,10,11,12,13] (by kernel_rfl) rfl (ZAA rfl) rfl nb rfl (ZAs rfl rfl rfl rfl rfl Bod.h (ZOp c3 (ZA9 _ _ _ _)) ?_);refine z_p ?_;refine z_m ?_;refine g_f ?_;refine g_l ?_
  first|refine ZAV rfl rfl rfl rfl ?_|refine ZAB rfl rfl rfl rfl rfl (fun _=>A_ff (by omega) (ZAb rfl rfl)) ?_
  refine g_m ?_;refine g_f ?_;refine g_l ?_;refine g_m ?_;refine g_q ?_;refine g_f ?_;refine g_f ?_;refine g_f ?_;refine g_l ?_;refine g_c ?_;refine g_u ?_;refine ZAF [0,1,2,3,4,5,6,7,8,9,10,11,12,13,14,15,16,17,18,19,20,21,22,23,24,25,26,27,28,29,30] (by kernel_rfl) rfl (ZAA rfl) rfl nb rfl (ZBP rfl ?_);refine g_p ?_;refine z_p ?_;refine ZAF [0,1,2,3,4,5,6,7,8,9,10,11,12,13,14,15,16,17,18,19,20,21,22,23,24,25,26,27,28,29,30,31,32,33] (by kernel_rfl) rfl (ZAA rfl) rfl nb rfl (ZAj rfl rfl (ZAO rfl) ?_);refine ZAM (ZAA rfl) nb' ?_;have hprint:0<=s.print/\s.print<t.prints.length:=by omega
  replace c3:¬((s.print ≠ -1/\(s.print<0\/(t.prints.length:Int)-1<s.print))\/(s.pack ≠ -1/\(s.pack<0\/(t.packs.length:Int)-1<s.pack))):=by omega
  refine zy ?_;refine ZAP rfl rfl rfl rfl rfl Bod.h rfl rfl (ZA9 _ _ _ _) (fun c4=>?_) (fun c4=>?_)
  ·refine zy ?_
   exact ZAC (ZAD rfl (ZBw (by rw[ZAl c1 c2 c3,if_pos (.inl (of_decide_eq_true c4))]) (by decide) hE1))
  refine zy ?_;refine ZAP rfl rfl rfl rfl rfl Bod.h rfl rfl (ZA9 _ _ _ _) (fun c5=>?_) (fun c5=>?_)
  ·refine zy ?_
   exact ZAC (ZAD rfl (ZBw (by rw[ZAl c1 c2 c3,if_pos (.inr (.inl (of_decide_eq_true c5)))]) (by decide) hE1))
  refine zy ?_;refine ZAP rfl rfl rfl rfl rfl Bod.h rfl rfl (ZA9 _ _ _ _) (fun c6=>?_) (fun c6=>?_)
  ·refine zy ?_
   exact ZAC (ZAD rfl (ZBw (by rw[ZAl c1 c2 c3,if_pos (.inr (.inr (of_decide_eq_true c6)))]) (by decide) hE1))
  refine zy ?_;replace c4:=of_decide_eq_false c4;replace c5:=of_decide_eq_false c5;replace c6:=of_decide_eq_false c6;have hs0:ZAQ t s=0:=by rw[ZAl c1 c2 c3,if_neg (fun x=>x.elim c4 fun x=>x.elim c5 c6)]
  have hlr:=ZEN hO hs0;obtain⟨bv,ov,oav,rfl,hrv⟩:=ZFv (ZAN.ext (R:=ScVR) (fun x _=>x) m3 hE1) (s:=s) (by omega) (by omega);obtain⟨-,⟨vp1,vp2⟩,⟨vc1,vc2⟩,-⟩:=ZDb (ZG0 hO hs0);generalize hV:ZAr t s=V at *;refine ZAJ hmix [0,0,0,4,12,28,60,124,0,256,1020,2044,4095,8191,16383] [0,1,2,3,4,5,6,7,8,9,10,11,12,13] (some 14) [([],none)] (by kernel_rfl) (by kernel_rfl) ?_;refine z_r ?_;refine z_m ?_;refine z_m ?_;refine z_q ?_;refine z_f ?_;refine z_f ?_;refine z_f ?_;refine z_l ?_;refine z_f ?_;refine z_l ?_;refine ZAB rfl rfl rfl rfl rfl (fun _=>ZAK (k:=s.venue.toNat) Und.h Tsz.h rfl rfl (by omega) (by omega)) ?_;refine z_r ?_;refine ZAB rfl rfl rfl rfl rfl (fun _=>ZED rfl (ZQl _ _ _ _ _ _ _ _ _ _ _ _ _ _ _ _)) ?_
  refine ZCb (nk:=.ptr) rfl rfl rfl rfl rfl (fun _ _ hs=>ZSB hs rfl) ?_;refine ZAF (h1:=(Heap.add h1 _)) [0,1,2,3,4,5,6,7,8,9,10,11,12,13] (by kernel_rfl) rfl (ZAA rfl) rfl rfl rfl (ZAj rfl rfl (ZAO rfl) ?_);refine ZAM (h1:=(Heap.add h1 _)) (ZAA rfl) rfl ?_;refine ZQb (o:=.cells [i64 s.venue,i64 s.print,i64 s.pack,i64 s.minute,i64 s.speed,i64 s.worth,.pointer (some ⟨bH,0,none⟩),str [],str [],str V.name,i64 V.land,i64 V.proj,i64 V.speeds.lo,i64 V.speeds.hi,i64 V.change,i64 V.spool,i64 V.turn,.bool V.digital,i64 0,i64 0,i64 0] 156 false) hW1 fun h2 hE2 hW2 hgS=>?_;have g12:=hE2.get hg1;have gB2:=hE2.get hgB
  have hnS:h1.nx<=h1.nx:=Nat.le_refl _;refine zy ?_;refine ZAI rfl rfl rfl rfl (A_ff (by omega) (ZDX rfl rfl)) ?_;refine zy ?_;obtain⟨bp,op,oap,rfl,ap,cp,hrp,hI⟩:=ZKJ (ZAN.ext (R:=ScPR) (fun x y=>ScPR.ext x y) m5 (hE1.trans hE2)) (s:=s) hprint.1 hprint.2;obtain⟨⟨l1,l2⟩,l3,-,-⟩:=ZFS (ZO8 hO hs0 hk);have hEnd:endS t s=s.minute+ZCw t s:=rfl;have hlong:ZCw t s=if V.proj<2 then upS (ZCT (prAt t s).reels s.speed) 60+V.change*(((prAt t s).reels.length:Int)-1) else upS (ZCT (prAt t s).reels s.speed) 60:=by unfold ZCw;rw[if_neg (by omega),hV]
  have hsr:=ZFQ (l:=(prAt t s).reels) (speed:=s.speed) (by omega) l3;generalize hPr:prAt t s=Pr at *;refine ZAJ hmix [0,1,3,7,15,31,0,64,255,511,0,2047] [0,1,2,3,4,5,6,7,8,9,10] (some 11) [([],none)] (by kernel_rfl) (by kernel_rfl) ?_;refine z_m ?_;refine z_q ?_;refine z_f ?_;refine z_f ?_;refine z_f ?_;refine z_l ?_;refine z_f ?_;refine z_l ?_;refine ZAB rfl rfl rfl rfl rfl (fun _=>ZAK (k:=s.print.toNat) Und.h Tsz.h rfl rfl (by omega) (by omega)) ?_;refine z_r ?_;refine ZCb (nk:=.ptr) rfl rfl rfl rfl rfl (fun _ _ _=>ZEl Zr.h) ?_;refine ZAF (h1:=(Heap.add h2 _)) [0,1,2,3,4,5,6,7,8,9,10] (by kernel_rfl) rfl (ZAA rfl) rfl rfl rfl (ZBS (ZBD rfl rfl Tsz.h rfl rfl Heap.get_add_same rfl rfl rfl (fun h3 hU3 hW3=>?_)))
  have hE3:=hU3.ext (Ext.add hW2 _) hW2 (Nat.le_refl _);refine ZAM (h1:=h3) (ZAA rfl) rfl ?_;have gP:=hU3.at';have gS:=hE3.get hgS;have hEn:=hE2.trans hE3;have k1:=hEn.get hg1;have hI3:=hI.ext hE3;generalize hbP:h2.nx=bP at gP;have hne:h1.nx≠bP:=by
   have:=hW2 _ _ hgS;omega
  refine zy ?_
  refine ZAT (fun (k:Nat) m ds h'=>ds=[]/\h3=h'/\k<=Pr.reels.length ∧
    AllK m [(0,.pointer (some ⟨bH,0,none⟩)),(3,.pointer (some ⟨b1,0,none⟩)),(6,.pointer (some ⟨h1.nx,0,none⟩)),(8,.pointer (some ⟨bP,0,none⟩)),(9,i64 (ZCT (Pr.reels.take k) s.speed)),(141,.slice ap Pr.reels.length cp),(142,i64 Pr.reels.length),(143,i64 k)]) (fun k=>Pr.reels.length-k) 0 ?_ ?_
  ·exact⟨rfl,rfl,Nat.zero_le _,rfl,rfl,rfl,rfl,rfl,rfl,rfl,rfl,trivial⟩
  rintro k m ds h' ⟨rfl,rfl,hk',hall⟩;refine Wc.le ?_ (Le.kn hall);refine zy ?_;refine ZAE rfl rfl rfl rfl (ZAW rfl rfl) (fun h4=>?_) (fun h4=>?_)
  ·have hk2:k<Pr.reels.length:=by simpa using h4
   obtain⟨b2,o2,oa2,rfl,hc2⟩:=hI3 k hk2;have hn2:=l3 _ (List.getElem_mem hk2);have hss:ZCT (Pr.reels.take (k+1)) s.speed=ZCT (Pr.reels.take k) s.speed+upS Pr.reels[k] s.speed:=by
    unfold ZCT;rw[List.take_add_one,List.getElem?_eq_getElem hk2,List.map_append,List.sum_append];simp
   have hs2:=ZFQ (l:=Pr.reels.take k) (speed:=s.speed) (by omega) (fun n hn=>l3 n (List.mem_of_mem_take hn));rw[List.length_take,Nat.min_eq_left (by omega)] at hs2;have hu:=ZEi (a:=Pr.reels[k]) (b:=s.speed) (by omega) (by omega);have hup:=fun h=>ZQu (a:=Pr.reels[k]) (b:=s.speed) (by omega) (by omega) (by omega) (by omega) h;generalize hmk:Pr.reels[k]=x at *;generalize upS x s.speed=u at *;generalize ZCT (Pr.reels.take k) s.speed=z at *;refine zy ?_;refine ZAI rfl rfl rfl rfl (A_ix Und.h Tsz.h rfl rfl) ?_;refine zy ?_;refine ZA6 rfl rfl rfl rfl rfl Bod.h rfl rfl (hup _) ?_;refine zy ?_;refine⟨k+1,(by show Pr.reels.length-(k+1)<Pr.reels.length-k;omega),rfl,rfl,hk2,rfl,rfl,rfl,rfl,?_,rfl,rfl,rfl,trivial⟩
   rw[hss];rfl
  have hk2:k=Pr.reels.length:=by omega
  subst hk2;rw[List.take_length];clear hk';have hup:=fun h=>ZQu (a:=ZCT Pr.reels s.speed) (b:=60) (by omega) (by omega) (by omega) (by omega) h;have hu:=ZEi (a:=ZCT Pr.reels s.speed) (b:=60) (by omega) (by omega);generalize hZ:ZCT Pr.reels s.speed=Z at *;generalize hN:upS Z 60=N at *;clear hall h4;refine zy ?_;refine ZAJ hmix [0,0,0,0,8,0,32,0,128,0,512,1920,1561,5657,13849,30331,63099,128635,262143,524287,1048575] [0,1,2,3,4,5,6,7,8,9] (some 10) [([11,12,13],(some 14)),([15,16],(some 17)),([18,19],(some 20)),([],none)] (by kernel_rfl) (by kernel_rfl) ?_;refine z_m ?_;refine z_m ?_;refine z_m ?_;refine z_f ?_;refine z_l ?_;refine z_f ?_;refine z_l ?_;refine z_f ?_;refine z_l ?_;refine z_m ?_
  refine ZAF [9] (by kernel_rfl) rfl (ZAA rfl) rfl nb rfl (ZAs rfl rfl rfl rfl rfl Bod.h (hup _) ?_);refine z_y ?_;refine z_q ?_;refine z_f ?_;refine ZAF [0,3,4,9,10,12,13] (by kernel_rfl) rfl (by refine t_l 8 ?_;refine t_f 7 ?_;refine t_l 6 ?_;refine t_f 5 ?_;refine t_l 4 ?_;refine t_f 3 ?_;refine t_m 2 ?_;refine t_m 1 ?_;refine t_m 0 ?_;exact ZAA rfl) rfl nb rfl (ZBS (ZBD rfl rfl Tsz.h rfl rfl gS rfl rfl rfl (fun h4 hU4 hW4=>?_)));have hEn4:=hU4.ext hEn hW1 (Nat.le_refl _);have gP4:=hU4.get (Ne.symm hne) gP;have k14:=hEn4.get hg1;have gS4:=hU4.at';refine z_q ?_;refine z_f ?_;refine ZAF [0,1,3,4,5,6,9,10,12,13,14,15,16] (by kernel_rfl) rfl (by refine t_y 11 ?_;refine t_l 8 ?_;refine t_f 7 ?_;refine t_l 6 ?_;refine t_f 5 ?_;refine t_m 2 ?_;refine t_m 1 ?_;exact ZAA rfl) rfl nb rfl (ZBS (ZBD rfl rfl Tsz.h rfl rfl gS4 rfl rfl rfl (fun h5 hU5 hW5=>?_)))
  have hEn5:=hU5.ext hEn4 hW1 (Nat.le_refl _);have gP5:=hU5.get (Ne.symm hne) gP4;have k15:=hEn5.get hg1;have gS5:=hU5.at';refine z_q ?_;refine z_f ?_;refine ZAF [0,1,2,3,4,5,6,7,8,9,10,11,12,13,14,15,16,17,18,19] (by kernel_rfl) rfl (by refine t_y 11 ?_;refine t_l 8 ?_;refine t_f 7 ?_;refine t_m 2 ?_;exact ZAA rfl) rfl nb rfl (ZBS (ZBD rfl rfl Tsz.h rfl rfl gS5 rfl rfl rfl (fun h6 hU6 hW6=>?_)));have hEn6:=hU6.ext hEn5 hW1 (Nat.le_refl _);have gP6:=hU6.get (Ne.symm hne) gP5;have gS6:=hU6.at';refine ZAM (ZAA rfl) nb' ?_;clear gP gP4 gP5 k1 k14 k15 gS gS4 gS5 hEn hEn4 hEn5 hU4 hU5 hU6;refine zy ?_
  by_cases c7:V.proj<2
  ·rw[if_pos c7] at hlong
   have hmul:0<=V.change*((Pr.reels.length:Int)-1):=Int.mul_nonneg vc1 (by omega);have hmul2:V.change*((Pr.reels.length:Int)-1)<=60*11:=Int.mul_le_mul vc2 (by omega) (by omega) (by decide);generalize hM:V.change*((Pr.reels.length:Int)-1)=M at *;refine ZAI rfl rfl rfl rfl (A_tt c7 (ZAW rfl rfl)) ?_;refine zy ?_;refine ZAJ hmix [0,1,3,7,0,16,48,112,240,0,512,1536,3584,8176,16383,32767,65535,131071] [0,1,2,3,4,5,6,7,8,9,10,11,12,13,14,15,16] (some 17) [([],none)] (by kernel_rfl) (by kernel_rfl) ?_;refine z_m ?_;refine z_q ?_;refine z_f ?_;refine z_l ?_;refine z_m ?_;refine z_q ?_;refine z_f ?_;refine z_f ?_;refine z_l ?_;refine z_f ?_;refine z_l ?_;refine z_c ?_;refine z_u ?_;refine ZAB rfl rfl rfl rfl rfl (fun _=>ZOm rfl rfl hM (by omega) (by omega)) ?_;refine z_y ?_;refine z_q ?_;refine z_f ?_
   refine ZAF [0,1,2,3,4,5,6,7,8,9,10,11,12,13,14,15,16] (by kernel_rfl) rfl (ZAA rfl) rfl nb rfl (ZBD rfl rfl Tsz.h rfl rfl gS6 rfl rfl rfl (fun h7 hU7=>?_));refine ZAM (ZAA rfl) nb' ?_;have hEn:=hU7.ext hEn6 hW1 (Nat.le_refl _);have gSn:=hU7.at';rw[hlong] at hEnd hlr;rw[<-Int.add_assoc] at hEnd;have k1:=hEn.get hg1;have kB:=hEn.get hgB;refine zy ?_;refine ZAJ hmix [0,0,2,6,14,30,62,0,128,384,1022,0,2048,6144,14336,30720,63488,0,131072,393216,917504,1966080,4063232,8386560,16777214,33554431,67108863,134217727] [0,1,2,3,4,5,6,7,8,9,10,11,12,13,14,15,16,17,18,19,20,21,22,23,24,25,26] (some 27) [([],none)] (by kernel_rfl) (by kernel_rfl) ?_
   refine z_m ?_;refine z_m ?_;refine z_q ?_;refine z_f ?_;refine z_f ?_;refine z_f ?_;refine z_l ?_;refine z_f ?_;refine z_l ?_;refine ZAB rfl rfl rfl rfl rfl (fun _=>ZHh rfl rfl (by omega) (ZC3 (by omega)) (by omega) (by omega)) ?_;refine z_y ?_;refine z_m ?_;refine z_q ?_;refine z_f ?_;refine z_f ?_;refine z_f ?_;refine z_l ?_;refine z_m ?_;refine z_q ?_;refine z_f ?_;refine z_l ?_;refine z_u ?_;refine ZAB rfl rfl rfl rfl rfl (fun _=>ZHh rfl rfl (by omega) (ZC3 (by omega)) (by omega) (by omega)) ?_;refine z_y ?_;refine z_b ?_;refine z_q ?_;refine z_f ?_;refine ZAF [0,1,2,3,4,5,6,7,8,9,10,11,12,13,14,15,16,17,18,19,20,21,22,23,24,25,26] (by kernel_rfl) rfl (ZAA rfl) rfl nb rfl (ZBD rfl rfl Tsz.h rfl rfl gSn rfl rfl rfl (fun h9 hU9=>?_))
   refine ZAM (ZAA rfl) nb' ?_;have hE9:=hU9.ext hEn hW1 (Nat.le_refl _);have gS9:=hU9.at';refine zy ?_;refine ZAC (ZAD rfl ⟨hE1.trans hE9,.inr ⟨hs0,h1.nx,rfl,?_,hE1.2.1⟩⟩);have e1:ZEs t s=Pr.work:=by unfold ZEs;rw[if_pos hprint.1,hPr]
   have e2:ZEq t s=Pr.version:=by unfold ZEq;rw[if_pos hprint.1,hPr]
   unfold ZBU ZGr ZDN;rw[e1,e2,hV,hEnd];exact gS9
  ·rw[if_neg c7] at hlong
   refine ZAI rfl rfl rfl rfl (A_ff c7 (ZAW rfl rfl)) ?_;have hEn:=hEn6;have gSn:=gS6;rw[hlong] at hEnd hlr;have k1:=hEn.get hg1;have kB:=hEn.get hgB;refine zy ?_;refine ZAJ hmix [0,0,2,6,14,30,62,0,128,384,1022,0,2048,6144,14336,30720,63488,0,131072,393216,917504,1966080,4063232,8386560,16777214,33554431,67108863,134217727] [0,1,2,3,4,5,6,7,8,9,10,11,12,13,14,15,16,17,18,19,20,21,22,23,24,25,26] (some 27) [([],none)] (by kernel_rfl) (by kernel_rfl) ?_;refine z_m ?_;refine z_m ?_;refine z_q ?_;refine z_f ?_;refine z_f ?_;refine z_f ?_;refine z_l ?_;refine z_f ?_;refine z_l ?_;refine ZAB rfl rfl rfl rfl rfl (fun _=>ZHh rfl rfl (by omega) (ZC3 (by omega)) (by omega) (by omega)) ?_;refine z_y ?_;refine z_m ?_;refine z_q ?_;refine z_f ?_;refine z_f ?_;refine z_f ?_;refine z_l ?_;refine z_m ?_;refine z_q ?_;refine z_f ?_;refine z_l ?_;refine z_u ?_;refine ZAB rfl rfl rfl rfl rfl (fun _=>ZHh rfl rfl (by omega) (ZC3 (by omega)) (by omega) (by omega)) ?_;refine z_y ?_;refine z_b ?_;refine z_q ?_;refine z_f ?_
   refine ZAF [0,1,2,3,4,5,6,7,8,9,10,11,12,13,14,15,16,17,18,19,20,21,22,23,24,25,26] (by kernel_rfl) rfl (ZAA rfl) rfl nb rfl (ZBD rfl rfl Tsz.h rfl rfl gSn rfl rfl rfl (fun h9 hU9=>?_));refine ZAM (ZAA rfl) nb' ?_;have hE9:=hU9.ext hEn hW1 (Nat.le_refl _);have gS9:=hU9.at';refine zy ?_;refine ZAC (ZAD rfl ⟨hE1.trans hE9,.inr ⟨hs0,h1.nx,rfl,?_,hE1.2.1⟩⟩);have e1:ZEs t s=Pr.work:=by unfold ZEs;rw[if_pos hprint.1,hPr]
   have e2:ZEq t s=Pr.version:=by unfold ZEq;rw[if_pos hprint.1,hPr]
   unfold ZBU ZGr ZDN;rw[e1,e2,hV,hEnd];exact gS9
 ·have hk:¬s.pack = -1:=fun hk=>c2 (by rw[decide_eq_true hp,decide_eq_true hk])
  by_cases c3:s.pack<0\/(t.packs.length:Int)-1<s.pack
  ·refine ZAJ hmix [0,1,3,7,15,31,15,79,207,463,975,1999,4047,8143,16383,32767,65535,131071,262143,524287,1048575,2097151,4194303,2097151,10485759,27262975,60817407,127926271,262143999,530579455,1067450367,2147483647,4294967295,8589934591,17179869183] [0,1,2,3,4,5,6,7,8,9,10,11,12,13] (some 14) [([15,16,17,18,19,20,21,22,23,24,25,26,27,28,29,30],(some 31)),([32,33],(some 34)),([],none)] (by kernel_rfl) (by kernel_rfl) ?_
   refine z_f ?_;refine z_l ?_;refine ZAB rfl rfl rfl rfl rfl (fun _=>A_ff (by omega) (ZAb rfl rfl)) ?_;refine z_m ?_;refine g_f ?_;refine g_l ?_;refine g_m ?_;refine g_q ?_;refine g_f ?_;refine g_f ?_;refine g_f ?_;refine g_l ?_;refine g_c ?_;refine g_u ?_;refine ZAF [0,1,2,3,4,5,6,7,8,9,10,11,12,13] (by kernel_rfl) rfl (ZAA rfl) rfl nb rfl (ZBP rfl ?_);refine z_p ?_;refine z_m ?_;refine g_f ?_;refine g_l ?_
   first|refine ZAV rfl rfl rfl rfl ?_|refine ZAB rfl rfl rfl rfl rfl (fun _=>A_tt hk (ZAb rfl rfl)) ?_
   refine g_m ?_;refine g_f ?_;refine g_l ?_;refine g_m ?_;refine g_q ?_;refine g_f ?_;refine g_f ?_;refine g_f ?_;refine g_l ?_;refine g_c ?_;refine g_u ?_;refine ZAF [0,1,2,3,4,5,6,7,8,9,10,11,12,13,14,15,16,17,18,19,20,21,22,23,24,25,26,27,28,29,30] (by kernel_rfl) rfl (ZAA rfl) rfl nb rfl (ZAs rfl rfl rfl rfl rfl Bod.h (ZOu c3 (ZA9 _ _ _ _)) ?_);refine g_p ?_;refine z_p ?_;refine ZAF [0,1,2,3,4,5,6,7,8,9,10,11,12,13,14,15,16,17,18,19,20,21,22,23,24,25,26,27,28,29,30,31,32,33] (by kernel_rfl) rfl (ZAA rfl) rfl nb rfl (ZAj rfl rfl (ZAO rfl) ?_);refine ZAM (ZAA rfl) nb' ?_;refine zy ?_;exact ZAC (ZAD rfl (ZBw (ZC0 c1 c2 (.inr ⟨hk,c3⟩)) (by decide) hE1))
  refine ZAJ hmix [0,1,3,7,15,31,15,79,207,463,975,1999,4047,8143,16383,32767,65535,131071,262143,524287,1048575,2097151,4194303,2097151,10485759,27262975,60817407,127926271,262143999,530579455,1067450367,2147483647,4294967295,8589934591,17179869183] [0,1,2,3,4,5,6,7,8,9,10,11,12,13] (some 14) [([15,16,17,18,19,20,21,22,23,24,25,26,27,28,29,30],(some 31)),([32,33],(some 34)),([],none)] (by kernel_rfl) (by kernel_rfl) ?_;refine z_f ?_;refine z_l ?_;refine ZAB rfl rfl rfl rfl rfl (fun _=>A_ff (by omega) (ZAb rfl rfl)) ?_;refine z_m ?_;refine g_f ?_;refine g_l ?_;refine g_m ?_;refine g_q ?_;refine g_f ?_;refine g_f ?_;refine g_f ?_;refine g_l ?_;refine g_c ?_;refine g_u ?_
  refine ZAF [0,1,2,3,4,5,6,7,8,9,10,11,12,13] (by kernel_rfl) rfl (ZAA rfl) rfl nb rfl (ZBP rfl ?_);refine z_p ?_;refine z_m ?_;refine g_f ?_;refine g_l ?_
  first|refine ZAV rfl rfl rfl rfl ?_|refine ZAB rfl rfl rfl rfl rfl (fun _=>A_tt hk (ZAb rfl rfl)) ?_
  refine g_m ?_;refine g_f ?_;refine g_l ?_;refine g_m ?_;refine g_q ?_;refine g_f ?_;refine g_f ?_;refine g_f ?_;refine g_l ?_;refine g_c ?_;refine g_u ?_;refine ZAF [0,1,2,3,4,5,6,7,8,9,10,11,12,13,14,15,16,17,18,19,20,21,22,23,24,25,26,27,28,29,30] (by kernel_rfl) rfl (ZAA rfl) rfl nb rfl (ZAs rfl rfl rfl rfl rfl Bod.h (ZOp c3 (ZA9 _ _ _ _)) ?_);refine g_p ?_;refine z_p ?_;refine ZAF [0,1,2,3,4,5,6,7,8,9,10,11,12,13,14,15,16,17,18,19,20,21,22,23,24,25,26,27,28,29,30,31,32,33] (by kernel_rfl) rfl (ZAA rfl) rfl nb rfl (ZAj rfl rfl (ZAO rfl) ?_);refine ZAM (ZAA rfl) nb' ?_;have hpack:0<=s.pack/\s.pack<t.packs.length:=by omega
  replace c3:¬((s.print ≠ -1/\(s.print<0\/(t.prints.length:Int)-1<s.print))\/(s.pack ≠ -1/\(s.pack<0\/(t.packs.length:Int)-1<s.pack))):=by omega
  refine zy ?_;refine ZAP rfl rfl rfl rfl rfl Bod.h rfl rfl (ZA9 _ _ _ _) (fun c4=>?_) (fun c4=>?_)
  ·refine zy ?_
   exact ZAC (ZAD rfl (ZBw (by rw[ZAl c1 c2 c3,if_pos (.inl (of_decide_eq_true c4))]) (by decide) hE1))
  refine zy ?_;refine ZAP rfl rfl rfl rfl rfl Bod.h rfl rfl (ZA9 _ _ _ _) (fun c5=>?_) (fun c5=>?_)
  ·refine zy ?_
   exact ZAC (ZAD rfl (ZBw (by rw[ZAl c1 c2 c3,if_pos (.inr (.inl (of_decide_eq_true c5)))]) (by decide) hE1))
  refine zy ?_;refine ZAP rfl rfl rfl rfl rfl Bod.h rfl rfl (ZA9 _ _ _ _) (fun c6=>?_) (fun c6=>?_)
  ·refine zy ?_
   exact ZAC (ZAD rfl (ZBw (by rw[ZAl c1 c2 c3,if_pos (.inr (.inr (of_decide_eq_true c6)))]) (by decide) hE1))
  refine zy ?_;replace c4:=of_decide_eq_false c4;replace c5:=of_decide_eq_false c5;replace c6:=of_decide_eq_false c6;have hs0:ZAQ t s=0:=by rw[ZAl c1 c2 c3,if_neg (fun x=>x.elim c4 fun x=>x.elim c5 c6)]
  have hlr:=ZEN hO hs0;obtain⟨bv,ov,oav,rfl,hrv⟩:=ZFv (ZAN.ext (R:=ScVR) (fun x _=>x) m3 hE1) (s:=s) (by omega) (by omega);obtain⟨-,⟨vp1,vp2⟩,⟨vc1,vc2⟩,-⟩:=ZDb (ZG0 hO hs0);generalize hV:ZAr t s=V at *;refine ZAJ hmix [0,0,0,4,12,28,60,124,0,256,1020,2044,4095,8191,16383] [0,1,2,3,4,5,6,7,8,9,10,11,12,13] (some 14) [([],none)] (by kernel_rfl) (by kernel_rfl) ?_;refine z_r ?_;refine z_m ?_;refine z_m ?_;refine z_q ?_;refine z_f ?_;refine z_f ?_;refine z_f ?_;refine z_l ?_;refine z_f ?_;refine z_l ?_;refine ZAB rfl rfl rfl rfl rfl (fun _=>ZAK (k:=s.venue.toNat) Und.h Tsz.h rfl rfl (by omega) (by omega)) ?_;refine z_r ?_;refine ZAB rfl rfl rfl rfl rfl (fun _=>ZED rfl (ZQl _ _ _ _ _ _ _ _ _ _ _ _ _ _ _ _)) ?_
  refine ZCb (nk:=.ptr) rfl rfl rfl rfl rfl (fun _ _ hs=>ZSB hs rfl) ?_;refine ZAF (h1:=(Heap.add h1 _)) [0,1,2,3,4,5,6,7,8,9,10,11,12,13] (by kernel_rfl) rfl (ZAA rfl) rfl rfl rfl (ZAj rfl rfl (ZAO rfl) ?_);refine ZAM (h1:=(Heap.add h1 _)) (ZAA rfl) rfl ?_;refine ZQb (o:=.cells [i64 s.venue,i64 s.print,i64 s.pack,i64 s.minute,i64 s.speed,i64 s.worth,.pointer (some ⟨bH,0,none⟩),str [],str [],str V.name,i64 V.land,i64 V.proj,i64 V.speeds.lo,i64 V.speeds.hi,i64 V.change,i64 V.spool,i64 V.turn,.bool V.digital,i64 0,i64 0,i64 0] 156 false) hW1 fun h2 hE2 hW2 hgS=>?_;have g12:=hE2.get hg1;have gB2:=hE2.get hgB
  have hnS:h1.nx<=h1.nx:=Nat.le_refl _;refine zy ?_;refine ZAI rfl rfl rfl rfl (A_tt hpack.1 (ZDX rfl rfl)) ?_;refine zy ?_;obtain⟨bp,op,oap,rfl,hrp⟩:=ZL1 (ZAN.ext (R:=ZEV) (fun x _=>x) m6 (hE1.trans hE2)) (s:=s) hpack.1 hpack.2;obtain⟨⟨l1,l2⟩,-⟩:=ZK3 (ZRJ hO hs0 hpack.1);have hEnd:endS t s=s.minute+ZCw t s:=rfl;have hlong:ZCw t s=upS (pkAt t s).frames (60*s.speed):=by unfold ZCw;rw[if_pos hpack.1,ZR6 (by omega)]
  generalize hPk:pkAt t s=Pk at *;rw[hlong] at hEnd hlr;have hup:=fun h=>ZQu (a:=Pk.frames) (b:=60*s.speed) (by omega) (by omega) (by omega) (by omega) h;generalize hX:60*s.speed=X at *;generalize hN:upS Pk.frames X=N at *;refine ZAJ hmix [0,1,3,7,15,31,0,64,255,511,0,2047] [0,1,2,3,4,5,6,7,8,9,10] (some 11) [([],none)] (by kernel_rfl) (by kernel_rfl) ?_;refine z_m ?_;refine z_q ?_;refine z_f ?_;refine z_f ?_;refine z_f ?_;refine z_l ?_;refine z_f ?_;refine z_l ?_;refine ZAB rfl rfl rfl rfl rfl (fun _=>ZAK (k:=s.pack.toNat) Und.h Tsz.h rfl rfl (by omega) (by omega)) ?_;refine z_r ?_;refine ZCb (nk:=.ptr) rfl rfl rfl rfl rfl (fun _ _ _=>ZEl Zr.h) ?_
  refine ZAF (h1:=(Heap.add h2 _)) [0,1,2,3,4,5,6,7,8,9,10] (by kernel_rfl) rfl (ZAA rfl) rfl rfl rfl (ZBS (ZBD rfl rfl Tsz.h rfl rfl Heap.get_add_same rfl rfl rfl (fun h3 hU3 hW3=>?_)));have hE3:=hU3.ext (Ext.add hW2 _) hW2 (Nat.le_refl _);refine ZAM (h1:=h3) (ZAA rfl) rfl ?_;have gP:=hU3.at';have gS:=hE3.get hgS;have hEn3:=hE2.trans hE3;have k13:=hEn3.get hg1;generalize hbP:h2.nx=bP at gP;have hne:h1.nx≠bP:=by
   have:=hW2 _ _ hgS;omega
  refine zy ?_;refine ZAJ hmix [0,0,0,0,8,0,32,0,128,0,512,0,2048,6144,15872,32640,32281,97817,228889,491131,1015419,2063995,4194303,8388607,16777215] [0,1,2,3,4,5,6,7,8,9,10,11,12,13] (some 14) [([15,16,17],(some 18)),([19,20],(some 21)),([22,23],(some 24)),([],none)] (by kernel_rfl) (by kernel_rfl) ?_;refine z_m ?_;refine z_m ?_;refine z_m ?_;refine z_f ?_;refine z_l ?_;refine z_f ?_;refine z_l ?_;refine z_f ?_;refine z_l ?_;refine z_f ?_;refine z_l ?_;refine z_f ?_;refine z_l ?_;refine ZAB rfl rfl rfl rfl rfl (fun _=>ZOm rfl rfl hX (by omega) (by omega)) ?_;refine ZAF [9,10,11,12,13] (by kernel_rfl) rfl (ZAA rfl) rfl nb rfl (ZAs rfl rfl rfl rfl rfl Bod.h (hup _) ?_)
  refine z_y ?_;refine z_q ?_;refine z_f ?_;refine ZAF [0,3,4,9,10,11,12,13,14,16,17] (by kernel_rfl) rfl (by refine t_l 8 ?_;refine t_f 7 ?_;refine t_l 6 ?_;refine t_f 5 ?_;refine t_l 4 ?_;refine t_f 3 ?_;refine t_m 2 ?_;refine t_m 1 ?_;refine t_m 0 ?_;exact ZAA rfl) rfl nb rfl (ZBS (ZBD rfl rfl Tsz.h rfl rfl gS rfl rfl rfl (fun h4 hU4 hW4=>?_)));have hEn4:=hU4.ext hEn3 hW1 (Nat.le_refl _);have gP4:=hU4.get (Ne.symm hne) gP;have k14:=hEn4.get hg1;have gS4:=hU4.at';refine z_q ?_;refine z_f ?_;refine ZAF [0,1,3,4,5,6,9,10,11,12,13,14,16,17,18,19,20] (by kernel_rfl) rfl (by refine t_y 15 ?_;refine t_l 8 ?_;refine t_f 7 ?_;refine t_l 6 ?_;refine t_f 5 ?_;refine t_m 2 ?_;refine t_m 1 ?_;exact ZAA rfl) rfl nb rfl (ZBS (ZBD rfl rfl Tsz.h rfl rfl gS4 rfl rfl rfl (fun h5 hU5 hW5=>?_)))
  have hEn5:=hU5.ext hEn4 hW1 (Nat.le_refl _);have gP5:=hU5.get (Ne.symm hne) gP4;have k15:=hEn5.get hg1;have gS5:=hU5.at';refine z_q ?_;refine z_f ?_;refine ZAF [0,1,2,3,4,5,6,7,8,9,10,11,12,13,14,15,16,17,18,19,20,21,22,23] (by kernel_rfl) rfl (by refine t_y 15 ?_;refine t_l 8 ?_;refine t_f 7 ?_;refine t_m 2 ?_;exact ZAA rfl) rfl nb rfl (ZBS (ZBD rfl rfl Tsz.h rfl rfl gS5 rfl rfl rfl (fun h6 hU6 hW6=>?_)));have hEn:=hU6.ext hEn5 hW1 (Nat.le_refl _);have gSn:=hU6.at';refine ZAM (ZAA rfl) nb' ?_;clear gP gP4 gP5 k13 k14 k15 gS gS4 gS5 hEn3 hEn4 hEn5 hU4 hU5 hU6;have k1:=hEn.get hg1;have kB:=hEn.get hgB
  refine zy ?_;refine ZAJ hmix [0,0,2,6,14,30,62,0,128,384,1022,0,2048,6144,14336,30720,63488,0,131072,393216,917504,1966080,4063232,8386560,16777214,33554431,67108863,134217727] [0,1,2,3,4,5,6,7,8,9,10,11,12,13,14,15,16,17,18,19,20,21,22,23,24,25,26] (some 27) [([],none)] (by kernel_rfl) (by kernel_rfl) ?_;refine z_m ?_;refine z_m ?_;refine z_q ?_;refine z_f ?_;refine z_f ?_;refine z_f ?_;refine z_l ?_;refine z_f ?_;refine z_l ?_;refine ZAB rfl rfl rfl rfl rfl (fun _=>ZHh rfl rfl (by omega) (ZC3 (by omega)) (by omega) (by omega)) ?_;refine z_y ?_;refine z_m ?_;refine z_q ?_;refine z_f ?_;refine z_f ?_;refine z_f ?_;refine z_l ?_;refine z_m ?_;refine z_q ?_;refine z_f ?_;refine z_l ?_;refine z_u ?_;refine ZAB rfl rfl rfl rfl rfl (fun _=>ZHh rfl rfl (by omega) (ZC3 (by omega)) (by omega) (by omega)) ?_;refine z_y ?_;refine z_b ?_;refine z_q ?_;refine z_f ?_
  refine ZAF [0,1,2,3,4,5,6,7,8,9,10,11,12,13,14,15,16,17,18,19,20,21,22,23,24,25,26] (by kernel_rfl) rfl (ZAA rfl) rfl nb rfl (ZBD rfl rfl Tsz.h rfl rfl gSn rfl rfl rfl (fun h9 hU9=>?_));refine ZAM (ZAA rfl) nb' ?_;have hE9:=hU9.ext hEn hW1 (Nat.le_refl _);have gS9:=hU9.at';refine zy ?_;refine ZAC (ZAD rfl ⟨hE1.trans hE9,.inr ⟨hs0,h1.nx,rfl,?_,hE1.2.1⟩⟩);have e1:ZEs t s=Pk.work:=by unfold ZEs;rw[if_neg (by omega),hPk]
  have e2:ZEq t s=Pk.version:=by unfold ZEq;rw[if_neg (by omega),hPk]
  unfold ZBU ZGr ZDN;rw[e1,e2,hV,hEnd];exact gS9
theorem ZKy {tc sr:List Value}{t:ScT}{s:ScS}{h:Heap}(ht:ZBX h tc t)(hO:ScOk t)(hs:s.Fit)(hr:ScSR h sr s):Sv Tryz.prog 87 [.agg ⟨tc⟩,.agg ⟨sr⟩] h (RetP fun v h'=>v=i64 (ZAQ t s)/\Ext h h'):=by
 obtain⟨al,cl,at',ct,a1,c1',a2,c2',a3,c3',a4,c4',a5,c5',a6,c6',rfl,m1,m2,m3,m4,m5,m6,m7,m8⟩:=ht;obtain rfl:=hr;obtain⟨s1,s2,s3,s4,s5,s6⟩:=hs;unfold I64 at s1 s2 s3 s4 s5 s6;have q1:=hO.venues1;have q2:=hO.prints1;have q3:=hO.packs1;refine ZAy fun hw=>?_;refine ZAH Tryz.func87 rfl (by rw[Tryz.ntmps87];rfl) ?_;show Wc Tryz.prog ⟨87,64,none⟩ _ _ _ _ _;refine zy ?_;refine ZAa rfl rfl rfl fun h1 hE1 hW1 hg1 hn1=>?_;refine ZAa rfl rfl rfl fun h2 hE2 hW2 hg2 hn2=>?_;replace hg1:=hE2.get hg1;have hE:=hE1.trans hE2;generalize h.nx=b1 at *;generalize h1.nx=b2 at *;refine zy ?_;refine ZAP rfl rfl rfl rfl rfl Bod.h rfl rfl (ZBb _ _ _ _) (fun c1=>?_) (fun c1=>?_)
 rotate_left
 ·refine zy ?_
  exact ZAC (ZAD rfl ⟨by unfold ZAQ;rw[if_pos (ZBJ c1)];rfl,hE⟩)
 replace c1:=ZBI c1;refine zy ?_;refine ZAI rfl rfl rfl rfl (ZAX rfl rfl) ?_;refine zy ?_;refine ZAI rfl rfl rfl rfl (ZAX rfl rfl) ?_;refine ZAE rfl rfl rfl rfl (ZQX Und.h rfl rfl) (fun c2=>?_) (fun c2=>?_)
 ·refine zy ?_
  exact ZAC (ZAD rfl ⟨by rw[ZFc c1 c2];rfl,hE⟩)
 refine zy ?_
 by_cases hp:s.print = -1
 rotate_left
 ·have hk:s.pack = -1:=Classical.byContradiction fun hk=>c2 (by rw[decide_eq_false hp,decide_eq_false hk])
  refine ZAI rfl rfl rfl rfl (A_tt hp (ZAb rfl rfl)) ?_;refine zy ?_;refine ZAP rfl rfl rfl rfl rfl Bod.h rfl rfl (ZBb _ _ _ _) (fun c3=>?_) (fun c3=>?_);rotate_left
  ·refine zy ?_
   exact ZAC (ZAD rfl ⟨by rw[ZC0 c1 c2 (.inl ⟨hp,ZBJ c3⟩)];rfl,hE⟩)
  replace c3:=ZBI c3;replace c3:¬((s.print ≠ -1/\(s.print<0\/(t.prints.length:Int)-1<s.print))\/(s.pack ≠ -1/\(s.pack<0\/(t.packs.length:Int)-1<s.pack))):=by omega
  refine zy ?_;refine ZAI rfl rfl rfl rfl (A_ff (by omega) (ZAb rfl rfl)) ?_;refine zy ?_;refine ZAP rfl rfl rfl rfl rfl Bod.h rfl rfl (ZBb _ _ _ _) (fun c4=>?_) (fun c4=>?_);rotate_left
  ·refine zy ?_
   exact ZAC (ZAD rfl ⟨by rw[ZAl c1 c2 c3,if_pos (.inl (ZBJ c4))];rfl,hE⟩)
  refine zy ?_;refine ZAP rfl rfl rfl rfl rfl Bod.h rfl rfl (ZBb _ _ _ _) (fun c5=>?_) (fun c5=>?_);rotate_left
  ·refine zy ?_
   exact ZAC (ZAD rfl ⟨by rw[ZAl c1 c2 c3,if_pos (.inr (.inl (ZBJ c5)))];rfl,hE⟩)
  refine zy ?_;refine ZAP rfl rfl rfl rfl rfl Bod.h rfl rfl (ZBb _ _ _ _) (fun c6=>?_) (fun c6=>?_);rotate_left
  ·refine zy ?_
   exact ZAC (ZAD rfl ⟨by rw[ZAl c1 c2 c3,if_pos (.inr (.inr (ZBJ c6)))];rfl,hE⟩)
  refine zy ?_;exact ZAC (ZAD rfl ⟨by rw[ZAl c1 c2 c3,if_neg (fun x=>x.elim (ZBI c4) fun x=>x.elim (ZBI c5) (ZBI c6))];rfl,hE⟩)
 ·have hk:¬s.pack = -1:=fun hk=>c2 (by rw[decide_eq_true hp,decide_eq_true hk])
  refine ZAI rfl rfl rfl rfl (A_ff (by omega) (ZAb rfl rfl)) ?_;refine zy ?_;refine ZAI rfl rfl rfl rfl (A_tt hk (ZAb rfl rfl)) ?_;refine zy ?_;refine ZAP rfl rfl rfl rfl rfl Bod.h rfl rfl (ZBb _ _ _ _) (fun c3=>?_) (fun c3=>?_);rotate_left
  ·refine zy ?_
   exact ZAC (ZAD rfl ⟨by rw[ZC0 c1 c2 (.inr ⟨hk,ZBJ c3⟩)];rfl,hE⟩)
  replace c3:=ZBI c3;replace c3:¬((s.print ≠ -1/\(s.print<0\/(t.prints.length:Int)-1<s.print))\/(s.pack ≠ -1/\(s.pack<0\/(t.packs.length:Int)-1<s.pack))):=by omega
  refine zy ?_;refine ZAP rfl rfl rfl rfl rfl Bod.h rfl rfl (ZBb _ _ _ _) (fun c4=>?_) (fun c4=>?_);rotate_left
  ·refine zy ?_
   exact ZAC (ZAD rfl ⟨by rw[ZAl c1 c2 c3,if_pos (.inl (ZBJ c4))];rfl,hE⟩)
  refine zy ?_;refine ZAP rfl rfl rfl rfl rfl Bod.h rfl rfl (ZBb _ _ _ _) (fun c5=>?_) (fun c5=>?_);rotate_left
  ·refine zy ?_
   exact ZAC (ZAD rfl ⟨by rw[ZAl c1 c2 c3,if_pos (.inr (.inl (ZBJ c5)))];rfl,hE⟩)
  refine zy ?_;refine ZAP rfl rfl rfl rfl rfl Bod.h rfl rfl (ZBb _ _ _ _) (fun c6=>?_) (fun c6=>?_);rotate_left
  ·refine zy ?_
   exact ZAC (ZAD rfl ⟨by rw[ZAl c1 c2 c3,if_pos (.inr (.inr (ZBJ c6)))];rfl,hE⟩)
  refine zy ?_;exact ZAC (ZAD rfl ⟨by rw[ZAl c1 c2 c3,if_neg (fun x=>x.elim (ZBI c4) fun x=>x.elim (ZBI c5) (ZBI c6))];rfl,hE⟩)
theorem ZHw {tc sr:List Value}{t:ScT}{s:ScS}{h:Heap}(ht:ZBX h tc t)(hO:ScOk t)(hs0:ZAQ t s=0)(hr:ScSR h sr s):Sv Tryz.prog 88 [.agg ⟨tc⟩,.agg ⟨sr⟩] h (RetP fun v h'=>v=i64 (ZCw t s)/\Ext h h'):=by
 obtain⟨al,cl,at',ct,a1,c1',a2,c2',a3,c3',a4,c4',a5,c5',a6,c6',rfl,m1,m2,m3,m4,m5,m6,m7,m8⟩:=ht;obtain rfl:=hr;have q1:=hO.venues1;have q2:=hO.prints1;have q3:=hO.packs1;obtain⟨⟨v1,v2⟩,hpp,-,⟨sp1,sp2⟩,-⟩:=ZAo hs0;obtain⟨-,⟨vp1,vp2⟩,⟨vc1,vc2⟩,-⟩:=ZDb (ZG0 hO hs0);refine ZAy fun hw=>?_;refine ZAH Tryz.func88 rfl (by rw[Tryz.ntmps88];rfl) ?_;show Wc Tryz.prog ⟨88,68,none⟩ _ _ _ _ _;refine zy ?_;refine ZAa rfl rfl rfl fun h1 hE1 hW1 hg1 hn1=>?_;refine ZAa rfl rfl rfl fun h2 hE2 hW2 hg2 hn2=>?_;replace hg1:=hE2.get hg1;have hE:=hE1.trans hE2;generalize h.nx=b1 at *;generalize h1.nx=b2 at *;clear hE1 hE2 hW1 hn1 hn2
 clear h1;refine zy ?_
 by_cases hk:0<=s.pack
 ·obtain⟨bp,op,oap,rfl,hrp⟩:=ZL1 (ZAN.ext (R:=ZEV) (fun x _=>x) m6 hE) (s:=s) hk (by omega)
  obtain⟨⟨l1,l2⟩,-⟩:=ZK3 (ZRJ hO hs0 hk);have hlong:ZCw t s=upS (upS (pkAt t s).frames s.speed) 60:=by unfold ZCw;rw[if_pos hk]
  have hcf:ZAc h2 bp (op+s.pack.toNat*5+3)=some (i64 (pkAt t s).frames):=ZAR hrp rfl;generalize hPk:pkAt t s=Pk at *;have hu:=ZEi (a:=Pk.frames) (b:=s.speed) (by omega) (by omega);have hup:=fun h=>ZGX (a:=Pk.frames) (b:=s.speed) (by omega) (by omega) (by omega) (by omega) h;generalize upS Pk.frames s.speed=N at *;have hup2:=fun h=>ZGX (a:=N) (b:=60) (by omega) (by omega) (by omega) (by omega) h;refine ZAI rfl rfl rfl rfl (A_tt hk (ZDX rfl rfl)) ?_;refine zy ?_;refine ZAJ hmix [0,1,0,4,15,31,63,0,128,511,1023,2047] [0,1,2,3,4,5,6,7,8] (some 9) [([],(some 10)),([],(some 11)),([],none)] (by kernel_rfl) (by kernel_rfl) ?_
  refine z_f ?_;refine z_l ?_;refine z_f ?_;refine z_l ?_;refine ZAB rfl rfl rfl rfl rfl (fun _=>ZAK (k:=s.pack.toNat) Und.h Tsz.h rfl rfl (by omega) (by omega)) ?_;refine z_f ?_;refine z_l ?_;refine z_f ?_;refine z_l ?_;refine ZAF [0,1,2,3,4,5,6,7,8] (by kernel_rfl) rfl (ZAA rfl) rfl nb rfl (ZAs rfl rfl rfl rfl rfl Bod.h (hup _) ?_);refine ZAF [0,1,2,3,4,5,6,7,8,9] (by kernel_rfl) rfl (ZAA rfl) rfl nb rfl (ZAs rfl rfl rfl rfl rfl Bod.h (hup2 _) ?_);refine ZAF [0,1,2,3,4,5,6,7,8,9,10] (by kernel_rfl) rfl (ZAA rfl) rfl nb rfl (ZAj rfl rfl (ZAO rfl) ?_);refine ZAM (ZAA rfl) nb' ?_;refine zy ?_;exact ZAC (ZAD rfl ⟨by rw[hlong];rfl,hE⟩)
 have hprint:0<=s.print/\s.print<t.prints.length/\s.pack = -1:=by omega
 obtain⟨bp,op,oap,rfl,ap,cp,hrp,hI⟩:=ZKJ (ZAN.ext (R:=ScPR) (fun x y=>ScPR.ext x y) m5 hE) (s:=s) hprint.1 hprint.2.1;obtain⟨⟨l1,l2⟩,l3,-,-⟩:=ZFS (ZO8 hO hs0 hprint.2.2);have hlong:ZCw t s=if (ZAr t s).proj<2 then upS (ZCT (prAt t s).reels s.speed) 60+(ZAr t s).change*(((prAt t s).reels.length:Int)-1) else upS (ZCT (prAt t s).reels s.speed) 60:=by unfold ZCw;rw[if_neg hk]
 have hsr:=ZFQ (l:=(prAt t s).reels) (speed:=s.speed) (by omega) l3;have hcr:ZAc h2 bp (op+s.print.toNat*7+3)=some (.slice ap (prAt t s).reels.length cp):=ZAR hrp rfl;obtain⟨bv,ov,oav,rfl,hrv⟩:=ZFv (ZAN.ext (R:=ScVR) (fun x _=>x) m3 hE) (s:=s) v1 v2;have hcv2:ZAc h2 bv (ov+s.venue.toNat*9+2)=some (i64 (ZAr t s).proj):=ZAR hrv rfl;have hcv5:ZAc h2 bv (ov+s.venue.toNat*9+5)=some (i64 (ZAr t s).change):=ZAR hrv rfl;generalize hPr:prAt t s=Pr at *;generalize hV:ZAr t s=V at *;refine ZAI rfl rfl rfl rfl (A_ff hk (ZDX rfl rfl)) ?_;refine zy ?_;refine ZAI rfl rfl rfl rfl (ZAK (k:=s.print.toNat) Und.h Tsz.h rfl rfl (by omega) (by omega)) ?_
 refine zy ?_
 refine ZAT (fun (k:Nat) m ds h'=>ds=[]/\h2=h'/\k<=Pr.reels.length ∧
   AllK m [(2,.pointer (some ⟨b1,0,none⟩)),(3,.pointer (some ⟨b2,0,none⟩)),(5,.slice ap Pr.reels.length cp),(6,i64 (ZCT (Pr.reels.take k) s.speed)),(7,i64 k)]) (fun k=>Pr.reels.length-k) 0 ?_ ?_
 ·exact⟨rfl,rfl,Nat.zero_le _,rfl,rfl,rfl,rfl,rfl,trivial⟩
 rintro k m ds h' ⟨rfl,rfl,hk',hall⟩;refine Wc.le ?_ (Le.kn hall);refine zy ?_;refine ZAE rfl rfl rfl rfl (ZAW rfl rfl) (fun h4=>?_) (fun h4=>?_)
 ·have hk2:k<Pr.reels.length:=by simpa using h4
  obtain⟨b3,o3,oa3,rfl,hc3⟩:=hI k hk2;have hn2:=l3 _ (List.getElem_mem hk2);have hss:ZCT (Pr.reels.take (k+1)) s.speed=ZCT (Pr.reels.take k) s.speed+upS Pr.reels[k] s.speed:=by
   unfold ZCT;rw[List.take_add_one,List.getElem?_eq_getElem hk2,List.map_append,List.sum_append];simp
  have hs2:=ZFQ (l:=Pr.reels.take k) (speed:=s.speed) (by omega) (fun n hn=>l3 n (List.mem_of_mem_take hn));rw[List.length_take,Nat.min_eq_left (by omega)] at hs2;have hu:=ZEi (a:=Pr.reels[k]) (b:=s.speed) (by omega) (by omega);have hup:=fun h=>ZGX (a:=Pr.reels[k]) (b:=s.speed) (by omega) (by omega) (by omega) (by omega) h;generalize hmk:Pr.reels[k]=x at *;generalize upS x s.speed=u at *;generalize ZCT (Pr.reels.take k) s.speed=z at *;refine zy ?_;refine ZAJ hmix [0,0,0,6,14,0,32,126,255,511] [0,1,2,3,4,5,6] (some 7) [([8],(some 9)),([],none)] (by kernel_rfl) (by kernel_rfl) ?_;refine z_m ?_;refine z_m ?_;refine z_m ?_;refine z_i ?_;refine z_l ?_;refine z_f ?_;refine z_l ?_
  refine ZAF [1,2,3,4,5,6] (by kernel_rfl) rfl (ZAA rfl) rfl nb rfl (ZAs rfl rfl rfl rfl rfl Bod.h (hup _) ?_);refine z_y ?_;refine ZAF [0,1,2,3,4,5,6,7,8] (by kernel_rfl) rfl (by refine t_m 0 ?_;exact ZAA rfl) rfl nb rfl (ZAj rfl rfl (ZAO rfl) ?_);refine ZAM (ZAA rfl) nb' ?_;refine zy ?_;refine⟨k+1,(by show Pr.reels.length-(k+1)<Pr.reels.length-k;omega),rfl,rfl,hk2,rfl,rfl,rfl,?_,rfl,trivial⟩;rw[hss];rfl
 have hk2:k=Pr.reels.length:=by omega
 subst hk2;rw[List.take_length];clear hk';have hup:=fun h=>ZGX (a:=ZCT Pr.reels s.speed) (b:=60) (by omega) (by omega) (by omega) (by omega) h;have hu:=ZEi (a:=ZCT Pr.reels s.speed) (b:=60) (by omega) (by omega);generalize hZ:ZCT Pr.reels s.speed=Z at *;generalize hN:upS Z 60=N at *;clear hall h4;refine zy ?_;refine ZA6 rfl rfl rfl rfl rfl Bod.h rfl rfl (hup _) ?_;refine zy ?_;refine ZAI rfl rfl rfl rfl (ZAK (k:=s.venue.toNat) Und.h Tsz.h rfl rfl (by omega) (by omega)) ?_;refine zy ?_
 by_cases c7:V.proj<2
 ·rw[if_pos c7] at hlong
  have hmul:0<=V.change*((Pr.reels.length:Int)-1):=Int.mul_nonneg vc1 (by omega);have hmul2:V.change*((Pr.reels.length:Int)-1)<=60*11:=Int.mul_le_mul vc2 (by omega) (by omega) (by decide);generalize hM:V.change*((Pr.reels.length:Int)-1)=M at *;refine ZAI rfl rfl rfl rfl (A_tt c7 (ZAW rfl rfl)) ?_;refine zy ?_;refine ZAI rfl rfl rfl rfl (ZAK (k:=s.venue.toNat) Und.h Tsz.h rfl rfl (by omega) (by omega)) ?_;refine zy ?_;refine ZAI rfl rfl rfl rfl (ZOm rfl rfl hM (by omega) (by omega)) ?_;refine zy ?_;exact ZAC (ZAD rfl ⟨by rw[hlong];rfl,hE⟩)
 ·rw[if_neg c7] at hlong
  refine ZAI rfl rfl rfl rfl (A_ff c7 (ZAW rfl rfl)) ?_;refine zy ?_;exact ZAC (ZAD rfl ⟨by rw[hlong];rfl,hE⟩)
theorem ZBx {s a:Sp}{h:Heap}:Sv Tryz.prog 176 [.agg ⟨[i64 s.lo,i64 s.hi]⟩,.agg ⟨[i64 a.lo,i64 a.hi]⟩] h (RetP fun v h'=>v=.bool (decide (inSp s a))/\Ext h h'):=by
 refine ZAy fun hw=>?_;refine ZAH Tryz.func176 rfl (by rw[Tryz.ntmps176];rfl) ?_;show Wc Tryz.prog ⟨176,17,none⟩ _ _ _ _ _;refine zy ?_;refine ZAa rfl rfl rfl fun h1 hE1 hW1 hg1 hn1=>?_;refine ZAa rfl rfl rfl fun h2 hE2 hW2 hg2 hn2=>?_;replace hg1:=hE2.get hg1;have hE:=hE1.trans hE2;generalize h.nx=b1 at *;generalize h1.nx=b2 at *;refine zy ?_;refine ZAE rfl rfl rfl rfl (ZDX rfl rfl) (fun h3=>?_) (fun h3=>?_)
 ·refine zy ?_
  refine ZAE rfl rfl rfl rfl (ZD7 rfl rfl) (fun h4=>?_) (fun h4=>?_)
  ·refine zy ?_
   exact ZAC (ZAD rfl ⟨by rw[decide_eq_true (show inSp s a from⟨h3,h4⟩)];rfl,hE⟩)
  ·refine zy ?_
   exact ZAC (ZAD rfl ⟨by rw[decide_eq_false (fun e:inSp s a=>h4 e.2)];rfl,hE⟩)
 ·refine zy ?_
  exact ZAC (ZAD rfl ⟨by rw[decide_eq_false (fun e:inSp s a=>h3 e.1)];rfl,hE⟩)
theorem ZOq {a:Option Addr}{cap:Nat}{l:List ScL}{h:Heap}{g:FuncId}{first capv:List Value}{p:ScL->Bool}(hI:ZAN 4 ScLR h a l)(hbd:ZAm Tryz.prog g=true)
  (hp:∀h1,Ext h h1->∀row x,x∈l->ScLR h1 row x->Sv Tryz.prog g (first++([.agg ⟨row⟩]++capv)) h1 (RetP fun v h'=>v=.bool (p x)/\Ext h1 h')) (hlen:l.length<9223372036854775808) :
  Sv Tryz.prog 204 [.slice a l.length cap,.func (.func g) ⟨first⟩ ⟨capv⟩] h (RetP fun v h'=>v=i64 (ZBY p l)/\Ext h h'):=by
 refine ZAH Tryz.func204 rfl (by rw[Tryz.ntmps204];rfl) ?_;show Wc Tryz.prog ⟨204,19,none⟩ _ _ _ _ _;refine zy ?_
 refine ZAT (fun (k:Nat) m ds h'=>ds=[]/\Ext h h'/\k<=l.length/\(∀j (hj:j<l.length),j<k->p l[j]=false)/\AllK m [(0,.slice a l.length cap),(1,.func (.func g) ⟨first⟩ ⟨capv⟩),(7,i64 l.length),(8,i64 k)])
  (fun k=>l.length-k) 0 ?_ ?_
 ·exact⟨rfl,Ext.refl _,Nat.zero_le _,(fun _ _ hj=>by omega),rfl,rfl,rfl,rfl,trivial⟩
 rintro k m ds h' ⟨rfl,hE,hk,hno,hall⟩;refine Wc.le ?_ (Le.kn hall);refine zy ?_;refine ZAE rfl rfl rfl rfl (ZAW rfl rfl) (fun h1=>?_) (fun h1=>?_)
 ·have hk':k<l.length:=by simpa using h1
  obtain⟨b,o,oa,rfl,row,hrow,hma⟩:=hI k hk';have hrow2:=hE.row hrow;refine zy ?_;refine ZAI rfl rfl rfl rfl (A_ix Und.h Tsz.h rfl rfl) ?_;refine zy ?_;refine ZAn rfl rfl rfl rfl rfl hbd rfl rfl (hp h' hE _ _ (List.getElem_mem hk') hma) (fun hb h2 hE2=>?_) (fun hb h2 hE2=>?_)
  ·refine zy ?_
   refine ZAC (ZAD rfl ⟨?_,hE.trans hE2⟩);have:l.findIdx? p=some k:=by
    rw[List.findIdx?_eq_some_iff_getElem];exact⟨hk',hb,fun j hj=>by simp[hno j (by omega) hj]⟩
   simp[ZBY,this];rfl
  ·refine zy ?_
   refine⟨k+1,?_,rfl,hE.trans hE2,hk',?_,rfl,rfl,rfl,rfl,trivial⟩
   ·show l.length-(k+1)<l.length-k;omega
   ·intro j hj hlt
    rcases Nat.lt_or_ge j k with g|g
    ·exact hno j hj g
    ·have:j=k:=by omega
     subst this;exact hb
 ·have hk2:k=l.length:=by omega
  subst hk2;refine zy ?_;refine ZAC (ZAD rfl ⟨?_,hE⟩);have:l.findIdx? p=none:=by
   rw[List.findIdx?_eq_none_iff];intro x hx;obtain⟨j,hj,rfl⟩:=List.getElem_of_mem hx;exact hno j hj hj
  simp[ZBY,this];rfl
theorem ZGK {a:Option Addr}{cap:Nat}{l:List ScL}{h:Heap}{g:FuncId}{first capv:List Value}{p:ScL->Bool}(hI:ZAN 4 ScLR h a l)(hbd:ZAm Tryz.prog g=true)
  (hp:∀h1,Ext h h1->∀row x,x∈l->ScLR h1 row x->Sv Tryz.prog g (first++([.agg ⟨row⟩]++capv)) h1 (RetP fun v h'=>v=.bool (p x)/\Ext h1 h')) (hlen:l.length<9223372036854775808) :
  Sv Tryz.prog 178 [.slice a l.length cap,.func (.func g) ⟨first⟩ ⟨capv⟩] h (RetP fun v h'=>v=.bool (l.any p)/\Ext h h'):=by
 refine ZAH Tryz.func178 rfl (by rw[Tryz.ntmps178];rfl) ?_;show Wc Tryz.prog ⟨178,9,none⟩ _ _ _ _ _;refine zy ?_;refine ZAS rfl rfl rfl rfl rfl Bod.h rfl rfl (ZOq hI hbd hp hlen) fun h1 hE1=>?_;refine zy ?_;refine ZAE rfl rfl rfl rfl (ZDX rfl rfl) (fun hb=>?_) (fun hb=>?_)
 ·refine zy ?_
  exact ZAC (ZAD rfl ⟨by rw[<-ZBe,decide_eq_true hb];rfl,hE1⟩)
 ·refine zy ?_
  exact ZAC (ZAD rfl ⟨by rw[<-ZBe,decide_eq_false hb];rfl,hE1⟩)
theorem ZNz {a:Option Addr}{cap:Nat}{l:List ScK}{h:Heap}{g:FuncId}{first capv:List Value}{p:ScK->Bool}(hI:ZAN 4 ScKR h a l)(hbd:ZAm Tryz.prog g=true)
  (hp:∀h1,Ext h h1->∀row x,x∈l->ScKR h1 row x->Sv Tryz.prog g (first++([.agg ⟨row⟩]++capv)) h1 (RetP fun v h'=>v=.bool (p x)/\Ext h1 h')) (hlen:l.length<9223372036854775808) :
  Sv Tryz.prog 205 [.slice a l.length cap,.func (.func g) ⟨first⟩ ⟨capv⟩] h (RetP fun v h'=>v=i64 (ZBY p l)/\Ext h h'):=by
 refine ZAH Tryz.func205 rfl (by rw[Tryz.ntmps205];rfl) ?_;show Wc Tryz.prog ⟨205,19,none⟩ _ _ _ _ _;refine zy ?_
 refine ZAT (fun (k:Nat) m ds h'=>ds=[]/\Ext h h'/\k<=l.length/\(∀j (hj:j<l.length),j<k->p l[j]=false)/\AllK m [(0,.slice a l.length cap),(1,.func (.func g) ⟨first⟩ ⟨capv⟩),(7,i64 l.length),(8,i64 k)])
  (fun k=>l.length-k) 0 ?_ ?_
 ·exact⟨rfl,Ext.refl _,Nat.zero_le _,(fun _ _ hj=>by omega),rfl,rfl,rfl,rfl,trivial⟩
 rintro k m ds h' ⟨rfl,hE,hk,hno,hall⟩;refine Wc.le ?_ (Le.kn hall);refine zy ?_;refine ZAE rfl rfl rfl rfl (ZAW rfl rfl) (fun h1=>?_) (fun h1=>?_)
 ·have hk':k<l.length:=by simpa using h1
  obtain⟨b,o,oa,rfl,row,hrow,hma⟩:=hI k hk';have hrow2:=hE.row hrow;refine zy ?_;refine ZAI rfl rfl rfl rfl (A_ix Und.h Tsz.h rfl rfl) ?_;refine zy ?_;refine ZAn rfl rfl rfl rfl rfl hbd rfl rfl (hp h' hE _ _ (List.getElem_mem hk') hma) (fun hb h2 hE2=>?_) (fun hb h2 hE2=>?_)
  ·refine zy ?_
   refine ZAC (ZAD rfl ⟨?_,hE.trans hE2⟩);have:l.findIdx? p=some k:=by
    rw[List.findIdx?_eq_some_iff_getElem];exact⟨hk',hb,fun j hj=>by simp[hno j (by omega) hj]⟩
   simp[ZBY,this];rfl
  ·refine zy ?_
   refine⟨k+1,?_,rfl,hE.trans hE2,hk',?_,rfl,rfl,rfl,rfl,trivial⟩
   ·show l.length-(k+1)<l.length-k;omega
   ·intro j hj hlt
    rcases Nat.lt_or_ge j k with g|g
    ·exact hno j hj g
    ·have:j=k:=by omega
     subst this;exact hb
 ·have hk2:k=l.length:=by omega
  subst hk2;refine zy ?_;refine ZAC (ZAD rfl ⟨?_,hE⟩);have:l.findIdx? p=none:=by
   rw[List.findIdx?_eq_none_iff];intro x hx;obtain⟨j,hj,rfl⟩:=List.getElem_of_mem hx;exact hno j hj hj
  simp[ZBY,this];rfl
theorem ZGL {a:Option Addr}{cap:Nat}{l:List ScK}{h:Heap}{g:FuncId}{first capv:List Value}{p:ScK->Bool}(hI:ZAN 4 ScKR h a l)(hbd:ZAm Tryz.prog g=true)
  (hp:∀h1,Ext h h1->∀row x,x∈l->ScKR h1 row x->Sv Tryz.prog g (first++([.agg ⟨row⟩]++capv)) h1 (RetP fun v h'=>v=.bool (p x)/\Ext h1 h')) (hlen:l.length<9223372036854775808) :
  Sv Tryz.prog 181 [.slice a l.length cap,.func (.func g) ⟨first⟩ ⟨capv⟩] h (RetP fun v h'=>v=.bool (l.any p)/\Ext h h'):=by
 refine ZAH Tryz.func181 rfl (by rw[Tryz.ntmps181];rfl) ?_;show Wc Tryz.prog ⟨181,9,none⟩ _ _ _ _ _;refine zy ?_;refine ZAS rfl rfl rfl rfl rfl Bod.h rfl rfl (ZNz hI hbd hp hlen) fun h1 hE1=>?_;refine zy ?_;refine ZAE rfl rfl rfl rfl (ZDX rfl rfl) (fun hb=>?_) (fun hb=>?_)
 ·refine zy ?_
  exact ZAC (ZAD rfl ⟨by rw[<-ZBe,decide_eq_true hb];rfl,hE1⟩)
 ·refine zy ?_
  exact ZAC (ZAD rfl ⟨by rw[<-ZBe,decide_eq_false hb];rfl,hE1⟩)
def rOk (W V:List UInt8)(land:Int)(D:Sp)(r:ScR):Bool:=decide (r.work=W/\(r.version=[]\/r.version=V)/\r.land=land/\inSp D r.days)
theorem ZJI (t:ScT)(s:ScS):ZEc t s=t.rights.any (rOk (ZEs t s) (ZEq t s) (ZAr t s).land (ZDN t s)):=rfl
theorem ZBU.row {h:Heap}{b bH:Nat}{t:ScT}{s:ScS}(a:ZBU h b bH t s):h.get b=some (.cells [i64 s.venue,i64 s.print,i64 s.pack,i64 s.minute,i64 s.speed,i64 s.worth,.pointer (some ⟨bH,0,none⟩),str (ZEs t s),str (ZEq t s),
 str (ZAr t s).name,i64 (ZAr t s).land,i64 (ZAr t s).proj,i64 (ZAr t s).speeds.lo,i64 (ZAr t s).speeds.hi,i64 (ZAr t s).change,i64 (ZAr t s).spool,i64 (ZAr t s).turn,.bool (ZAr t s).digital,i64 (endS t s),i64 (ZDN t s).lo,i64 (ZDN t s).hi] 156 false):=a
set_option maxHeartbeats 2000000 in
theorem ZPl {bS bH:Nat}{t:ScT}{s:ScS}{h:Heap}(hS:ZBU h bS bH t s)(hH:ZCu h bH t)(hO:ScOk t):Sv Tryz.prog 143 [.pointer (some ⟨bS,0,none⟩)] h (RetP fun v h'=>v=i64 (if ZEc t s=false then 211 else 0)/\Ext h h'):=by
 obtain⟨row,ag,cg,aw,cw,ht,hgH,-,-⟩:=hH;obtain⟨al,cl,at',ct,a1,c1',a2,c2',a3,c3',a4,c4',a5,c5',a6,c6',rfl,m1,m2,m3,m4,m5,m6,m7,m8⟩:=ht;replace hgH:h.get bH=some (.cells [i64 t.first,.slice al t.lands.length cl,.slice at' t.travel.length ct,.slice a1 t.venues.length c1',.slice a2 t.rights.length c2',.slice a3 t.prints.length c3',.slice a4 t.packs.length c4',.slice a5 t.keys.length c5',.slice a6 t.loans.length c6',.slice ag (ZBa t).1.length cg,.slice aw (ZBa t).2.length cw] 147 false):=hgH;have hgS:=hS.row;have q1:=hO.rights1;rw[ZJI];generalize ZEs t s=W at *;generalize ZEq t s=V at *;generalize ZDN t s=D at *
 generalize (ZAr t s).land=land at *;refine ZAy fun hw=>?_;refine ZAH Tryz.func143 rfl (by rw[Tryz.ntmps143];rfl) ?_;show Wc Tryz.prog ⟨143,60,none⟩ _ _ _ _ _;refine zy ?_
 refine ZAT (fun (k:Nat) m ds h'=>ds=[]/\Ext h h'/\k<=t.rights.length/\(∀j (hj:j<t.rights.length),j<k->rOk W V land D t.rights[j]=false)/\AllK m [(0,.pointer (some ⟨bS,0,none⟩)),(13,.slice a2 t.rights.length c2'),(14,i64 t.rights.length),(15,i64 k)])
  (fun k=>t.rights.length-k) 0 ?_ ?_
 ·exact⟨rfl,Ext.refl _,Nat.zero_le _,(fun _ _ hj=>by omega),rfl,rfl,rfl,rfl,trivial⟩
 rintro k m ds h3 ⟨rfl,hE3,hk,hno,hall⟩;refine ZDG fun hw3=>?_;refine Wc.le ?_ (Le.kn hall);refine zy ?_;refine ZAE rfl rfl rfl rfl (ZAW rfl rfl) (fun h4=>?_) (fun h4=>?_);rotate_left
 ·refine zy ?_
  refine ZAC (ZAD rfl ⟨?_,hE3⟩);have:t.rights.any (rOk W V land D)=false:=by
   rw[List.any_eq_false];intro x hx;obtain⟨j,hj,rfl⟩:=List.getElem_of_mem hx;rw[hno j hj (by omega)];simp
  rw[this,if_pos rfl];rfl
 have hk':k<t.rights.length:=by simpa using h4
 have hyes:rOk W V land D t.rights[k]=true->t.rights.any (rOk W V land D)=true:=fun e=>List.any_eq_true.2 ⟨_,List.getElem_mem hk',e⟩
 have hnext:rOk W V land D t.rights[k]=false->∀j (hj:j<t.rights.length),j<k+1->rOk W V land D t.rights[j]=false:=fun e j hj hlt=>by
  rcases Nat.lt_or_ge j k with g|g
  ·exact hno j hj g
  ·have:j=k:=by omega
   subst this;exact e
 obtain⟨b,o,oa,rfl,rw',hrow,hma⟩:=m4 k hk';have hrow3:=hE3.row hrow;have hgS3:=hE3.get hgS;generalize hmk:t.rights[k]=r at *;obtain rfl:=hma;refine zy ?_;refine ZAI rfl rfl rfl rfl (A_ix Und.h Tsz.h rfl rfl) ?_;refine zy ?_;refine ZAh rfl rfl Zr.h Tsz.h rfl (fun _=>rfl) rfl rfl rfl fun h5 hE5 hW5 hg5 hn5=>?_;have hE6:=hE3.trans hE5;have hgS5:=hE5.get hgS3;generalize h3.nx=b5 at *;clear hgS3 hrow3 hn5 hE5;refine zy ?_
 by_cases cw:r.work=W
 ·by_cases ce:r.version=[]
  ·skip
   by_cases cl:r.land=land
   ·by_cases cd:inSp D r.days
    ·refine ZAJ hmix [0,1,0,4,12,28,63,127,255,511,1023,2047,4095,8191,4095,20479,53247,118783,262143,524287,1048575,2097151,4194303,8388607,4194303,20971519,54525951,121634815,255852543,536870911,1073741823,2147483647,4294967295,8589934591,17179869183,34359738367,4294967295,73014444031,274877906943,549755813887] [0,1,2,3,4,5,6,7,8,9,10,11,12,13,14,15,16,17,18,19,20,21,22,23,24,25,26,27,28,29,30,31,32,33,34,35,36,37] (some 38) [([39],none)] (by kernel_rfl) (by kernel_rfl) ?_
     refine z_f ?_;refine z_l ?_;refine z_m ?_;refine z_q ?_;refine z_f ?_;refine z_l ?_;refine ZAB rfl rfl rfl rfl rfl (fun _=>A_tt cw (ZAf rfl rfl)) ?_;refine z_m ?_;refine g_f ?_;refine g_l ?_
     first|refine ZAV rfl rfl rfl rfl ?_|refine ZAB rfl rfl rfl rfl rfl (fun _=>A_tt ce (ZAf rfl rfl)) ?_
     refine g_m ?_;refine g_f ?_;refine g_l ?_;refine g_m ?_;refine g_q ?_;refine g_f ?_;refine g_l ?_;refine z_o ?_;refine g_p ?_;refine z_p ?_;refine z_m ?_;refine g_f ?_;refine g_l ?_;refine g_m ?_;refine g_q ?_;refine g_f ?_;refine g_f ?_;refine g_l ?_
     first|refine ZAV rfl rfl rfl rfl ?_|refine ZAB rfl rfl rfl rfl rfl (fun _=>A_tt cl (ZAX rfl rfl)) ?_
     refine z_p ?_;refine z_m ?_;refine g_m ?_;refine g_q ?_;refine g_f ?_;refine g_r ?_;refine g_f ?_;refine g_r ?_;refine ZAF [0,1,2,3,4,5,6,7,8,9,10,11,12,13,14,15,16,17,18,19,20,21,22,23,24,25,26,27,28,29,30,31,32,33,34,35,36,37] (by kernel_rfl) rfl (ZAA rfl) rfl nb rfl (ZAZ rfl rfl rfl rfl rfl Bod.h (ZKR cd (ZBx (s:=D) (a:=r.days))) (fun h7 hE7=>?_));refine z_p ?_;refine ZAM (ZAA rfl) nb' ?_;refine zy ?_;exact ZAC (ZAD rfl ⟨by rw[hyes (decide_eq_true ⟨cw,.inl ce,cl,cd⟩)];rfl,hE6.trans hE7⟩)
    ·refine ZAJ hmix [0,1,0,4,12,28,63,127,255,511,1023,2047,4095,8191,4095,20479,53247,118783,262143,524287,1048575,2097151,4194303,8388607,4194303,20971519,54525951,121634815,255852543,536870911,1073741823,2147483647,4294967295,8589934591,17179869183,34359738367,4294967295,73014444031,274877906943,549755813887] [0,1,2,3,4,5,6,7,8,9,10,11,12,13,14,15,16,17,18,19,20,21,22,23,24,25,26,27,28,29,30,31,32,33,34,35,36,37] (some 38) [([39],none)] (by kernel_rfl) (by kernel_rfl) ?_
     refine z_f ?_;refine z_l ?_;refine z_m ?_;refine z_q ?_;refine z_f ?_;refine z_l ?_;refine ZAB rfl rfl rfl rfl rfl (fun _=>A_tt cw (ZAf rfl rfl)) ?_;refine z_m ?_;refine g_f ?_;refine g_l ?_
     first|refine ZAV rfl rfl rfl rfl ?_|refine ZAB rfl rfl rfl rfl rfl (fun _=>A_tt ce (ZAf rfl rfl)) ?_
     refine g_m ?_;refine g_f ?_;refine g_l ?_;refine g_m ?_;refine g_q ?_;refine g_f ?_;refine g_l ?_;refine z_o ?_;refine g_p ?_;refine z_p ?_;refine z_m ?_;refine g_f ?_;refine g_l ?_;refine g_m ?_;refine g_q ?_;refine g_f ?_;refine g_f ?_;refine g_l ?_
     first|refine ZAV rfl rfl rfl rfl ?_|refine ZAB rfl rfl rfl rfl rfl (fun _=>A_tt cl (ZAX rfl rfl)) ?_
     refine z_p ?_;refine z_m ?_;refine g_m ?_;refine g_q ?_;refine g_f ?_;refine g_r ?_;refine g_f ?_;refine g_r ?_;refine ZAF [0,1,2,3,4,5,6,7,8,9,10,11,12,13,14,15,16,17,18,19,20,21,22,23,24,25,26,27,28,29,30,31,32,33,34,35,36,37] (by kernel_rfl) rfl (ZAA rfl) rfl nb rfl (ZAZ rfl rfl rfl rfl rfl Bod.h (ZJl cd (ZBx (s:=D) (a:=r.days))) (fun h7 hE7=>?_));refine z_p ?_;refine ZAM (ZAA rfl) nb' ?_;have hr0:rOk W V land D r=false:=decide_eq_false (fun e=>cd e.2.2.2);refine zy ?_;refine⟨k+1,(by show t.rights.length-(k+1)<t.rights.length-k;omega),rfl,hE6.trans hE7,hk',hnext hr0,rfl,rfl,rfl,rfl,trivial⟩
   ·refine ZAJ hmix [0,1,0,4,12,28,63,127,255,511,1023,2047,4095,8191,4095,20479,53247,118783,262143,524287,1048575,2097151,4194303,8388607,4194303,20971519,54525951,121634815,255852543,536870911,1073741823,2147483647,4294967295,8589934591,17179869183,34359738367,4294967295,73014444031,274877906943,549755813887] [0,1,2,3,4,5,6,7,8,9,10,11,12,13,14,15,16,17,18,19,20,21,22,23,24,25,26,27,28,29,30,31,32,33,34,35,36,37] (some 38) [([39],none)] (by kernel_rfl) (by kernel_rfl) ?_
    refine z_f ?_;refine z_l ?_;refine z_m ?_;refine z_q ?_;refine z_f ?_;refine z_l ?_;refine ZAB rfl rfl rfl rfl rfl (fun _=>A_tt cw (ZAf rfl rfl)) ?_;refine z_m ?_;refine g_f ?_;refine g_l ?_
    first|refine ZAV rfl rfl rfl rfl ?_|refine ZAB rfl rfl rfl rfl rfl (fun _=>A_tt ce (ZAf rfl rfl)) ?_
    refine g_m ?_;refine g_f ?_;refine g_l ?_;refine g_m ?_;refine g_q ?_;refine g_f ?_;refine g_l ?_;refine z_o ?_;refine g_p ?_;refine z_p ?_;refine z_m ?_;refine g_f ?_;refine g_l ?_;refine g_m ?_;refine g_q ?_;refine g_f ?_;refine g_f ?_;refine g_l ?_
    first|refine ZAV rfl rfl rfl rfl ?_|refine ZAB rfl rfl rfl rfl rfl (fun _=>A_ff cl (ZAX rfl rfl)) ?_
    refine z_p ?_;refine z_m ?_;refine g_m ?_;refine g_q ?_;refine g_f ?_;refine g_r ?_;refine g_f ?_;refine g_r ?_;refine ZAF [0,1,2,3,4,5,6,7,8,9,10,11,12,13,14,15,16,17,18,19,20,21,22,23,24,25,26,27,28,29,30,31,32,33,34,35,36,37] (by kernel_rfl) rfl (ZAA rfl) rfl nb rfl (ZBP rfl ?_);refine z_p ?_;refine ZAM (ZAA rfl) nb' ?_;have hr0:rOk W V land D r=false:=decide_eq_false (fun e=>cl e.2.2.1);refine zy ?_;refine⟨k+1,(by show t.rights.length-(k+1)<t.rights.length-k;omega),rfl,hE6,hk',hnext hr0,rfl,rfl,rfl,rfl,trivial⟩
  ·by_cases cv:r.version=V
   ·skip
    by_cases cl:r.land=land
    ·by_cases cd:inSp D r.days
     ·refine ZAJ hmix [0,1,0,4,12,28,63,127,255,511,1023,2047,4095,8191,4095,20479,53247,118783,262143,524287,1048575,2097151,4194303,8388607,4194303,20971519,54525951,121634815,255852543,536870911,1073741823,2147483647,4294967295,8589934591,17179869183,34359738367,4294967295,73014444031,274877906943,549755813887] [0,1,2,3,4,5,6,7,8,9,10,11,12,13,14,15,16,17,18,19,20,21,22,23,24,25,26,27,28,29,30,31,32,33,34,35,36,37] (some 38) [([39],none)] (by kernel_rfl) (by kernel_rfl) ?_
      refine z_f ?_;refine z_l ?_;refine z_m ?_;refine z_q ?_;refine z_f ?_;refine z_l ?_;refine ZAB rfl rfl rfl rfl rfl (fun _=>A_tt cw (ZAf rfl rfl)) ?_;refine z_m ?_;refine g_f ?_;refine g_l ?_
      first|refine ZAV rfl rfl rfl rfl ?_|refine ZAB rfl rfl rfl rfl rfl (fun _=>A_ff ce (ZAf rfl rfl)) ?_
      refine g_m ?_;refine g_f ?_;refine g_l ?_;refine g_m ?_;refine g_q ?_;refine g_f ?_;refine g_l ?_
      first|refine ZAV rfl rfl rfl rfl ?_|refine ZAB rfl rfl rfl rfl rfl (fun _=>A_tt cv (ZAf rfl rfl)) ?_
      refine g_p ?_;refine z_p ?_;refine z_m ?_;refine g_f ?_;refine g_l ?_;refine g_m ?_;refine g_q ?_;refine g_f ?_;refine g_f ?_;refine g_l ?_
      first|refine ZAV rfl rfl rfl rfl ?_|refine ZAB rfl rfl rfl rfl rfl (fun _=>A_tt cl (ZAX rfl rfl)) ?_
      refine z_p ?_;refine z_m ?_;refine g_m ?_;refine g_q ?_;refine g_f ?_;refine g_r ?_;refine g_f ?_;refine g_r ?_;refine ZAF [0,1,2,3,4,5,6,7,8,9,10,11,12,13,14,15,16,17,18,19,20,21,22,23,24,25,26,27,28,29,30,31,32,33,34,35,36,37] (by kernel_rfl) rfl (ZAA rfl) rfl nb rfl (ZAZ rfl rfl rfl rfl rfl Bod.h (ZKR cd (ZBx (s:=D) (a:=r.days))) (fun h7 hE7=>?_));refine z_p ?_;refine ZAM (ZAA rfl) nb' ?_;refine zy ?_;exact ZAC (ZAD rfl ⟨by rw[hyes (decide_eq_true ⟨cw,.inr cv,cl,cd⟩)];rfl,hE6.trans hE7⟩)
     ·refine ZAJ hmix [0,1,0,4,12,28,63,127,255,511,1023,2047,4095,8191,4095,20479,53247,118783,262143,524287,1048575,2097151,4194303,8388607,4194303,20971519,54525951,121634815,255852543,536870911,1073741823,2147483647,4294967295,8589934591,17179869183,34359738367,4294967295,73014444031,274877906943,549755813887] [0,1,2,3,4,5,6,7,8,9,10,11,12,13,14,15,16,17,18,19,20,21,22,23,24,25,26,27,28,29,30,31,32,33,34,35,36,37] (some 38) [([39],none)] (by kernel_rfl) (by kernel_rfl) ?_
      refine z_f ?_;refine z_l ?_;refine z_m ?_;refine z_q ?_;refine z_f ?_;refine z_l ?_;refine ZAB rfl rfl rfl rfl rfl (fun _=>A_tt cw (ZAf rfl rfl)) ?_;refine z_m ?_;refine g_f ?_;refine g_l ?_
      first|refine ZAV rfl rfl rfl rfl ?_|refine ZAB rfl rfl rfl rfl rfl (fun _=>A_ff ce (ZAf rfl rfl)) ?_
      refine g_m ?_;refine g_f ?_;refine g_l ?_;refine g_m ?_;refine g_q ?_;refine g_f ?_;refine g_l ?_
      first|refine ZAV rfl rfl rfl rfl ?_|refine ZAB rfl rfl rfl rfl rfl (fun _=>A_tt cv (ZAf rfl rfl)) ?_
      refine g_p ?_;refine z_p ?_;refine z_m ?_;refine g_f ?_;refine g_l ?_;refine g_m ?_;refine g_q ?_;refine g_f ?_;refine g_f ?_;refine g_l ?_
      first|refine ZAV rfl rfl rfl rfl ?_|refine ZAB rfl rfl rfl rfl rfl (fun _=>A_tt cl (ZAX rfl rfl)) ?_
      refine z_p ?_;refine z_m ?_;refine g_m ?_;refine g_q ?_;refine g_f ?_;refine g_r ?_;refine g_f ?_;refine g_r ?_;refine ZAF [0,1,2,3,4,5,6,7,8,9,10,11,12,13,14,15,16,17,18,19,20,21,22,23,24,25,26,27,28,29,30,31,32,33,34,35,36,37] (by kernel_rfl) rfl (ZAA rfl) rfl nb rfl (ZAZ rfl rfl rfl rfl rfl Bod.h (ZJl cd (ZBx (s:=D) (a:=r.days))) (fun h7 hE7=>?_));refine z_p ?_;refine ZAM (ZAA rfl) nb' ?_;have hr0:rOk W V land D r=false:=decide_eq_false (fun e=>cd e.2.2.2);refine zy ?_;refine⟨k+1,(by show t.rights.length-(k+1)<t.rights.length-k;omega),rfl,hE6.trans hE7,hk',hnext hr0,rfl,rfl,rfl,rfl,trivial⟩
    ·refine ZAJ hmix [0,1,0,4,12,28,63,127,255,511,1023,2047,4095,8191,4095,20479,53247,118783,262143,524287,1048575,2097151,4194303,8388607,4194303,20971519,54525951,121634815,255852543,536870911,1073741823,2147483647,4294967295,8589934591,17179869183,34359738367,4294967295,73014444031,274877906943,549755813887] [0,1,2,3,4,5,6,7,8,9,10,11,12,13,14,15,16,17,18,19,20,21,22,23,24,25,26,27,28,29,30,31,32,33,34,35,36,37] (some 38) [([39],none)] (by kernel_rfl) (by kernel_rfl) ?_
     refine z_f ?_;refine z_l ?_;refine z_m ?_;refine z_q ?_;refine z_f ?_;refine z_l ?_;refine ZAB rfl rfl rfl rfl rfl (fun _=>A_tt cw (ZAf rfl rfl)) ?_;refine z_m ?_;refine g_f ?_;refine g_l ?_
     first|refine ZAV rfl rfl rfl rfl ?_|refine ZAB rfl rfl rfl rfl rfl (fun _=>A_ff ce (ZAf rfl rfl)) ?_
     refine g_m ?_;refine g_f ?_;refine g_l ?_;refine g_m ?_;refine g_q ?_;refine g_f ?_;refine g_l ?_
     first|refine ZAV rfl rfl rfl rfl ?_|refine ZAB rfl rfl rfl rfl rfl (fun _=>A_tt cv (ZAf rfl rfl)) ?_
     refine g_p ?_;refine z_p ?_;refine z_m ?_;refine g_f ?_;refine g_l ?_;refine g_m ?_;refine g_q ?_;refine g_f ?_;refine g_f ?_;refine g_l ?_
     first|refine ZAV rfl rfl rfl rfl ?_|refine ZAB rfl rfl rfl rfl rfl (fun _=>A_ff cl (ZAX rfl rfl)) ?_
     refine z_p ?_;refine z_m ?_;refine g_m ?_;refine g_q ?_;refine g_f ?_;refine g_r ?_;refine g_f ?_;refine g_r ?_;refine ZAF [0,1,2,3,4,5,6,7,8,9,10,11,12,13,14,15,16,17,18,19,20,21,22,23,24,25,26,27,28,29,30,31,32,33,34,35,36,37] (by kernel_rfl) rfl (ZAA rfl) rfl nb rfl (ZBP rfl ?_);refine z_p ?_;refine ZAM (ZAA rfl) nb' ?_;have hr0:rOk W V land D r=false:=decide_eq_false (fun e=>cl e.2.2.1);refine zy ?_;refine⟨k+1,(by show t.rights.length-(k+1)<t.rights.length-k;omega),rfl,hE6,hk',hnext hr0,rfl,rfl,rfl,rfl,trivial⟩
   ·refine ZAJ hmix [0,1,0,4,12,28,63,127,255,511,1023,2047,4095,8191,4095,20479,53247,118783,262143,524287,1048575,2097151,4194303,8388607,4194303,20971519,54525951,121634815,255852543,536870911,1073741823,2147483647,4294967295,8589934591,17179869183,34359738367,4294967295,73014444031,274877906943,549755813887] [0,1,2,3,4,5,6,7,8,9,10,11,12,13,14,15,16,17,18,19,20,21,22,23,24,25,26,27,28,29,30,31,32,33,34,35,36,37] (some 38) [([39],none)] (by kernel_rfl) (by kernel_rfl) ?_
    refine z_f ?_;refine z_l ?_;refine z_m ?_;refine z_q ?_;refine z_f ?_;refine z_l ?_;refine ZAB rfl rfl rfl rfl rfl (fun _=>A_tt cw (ZAf rfl rfl)) ?_;refine z_m ?_;refine g_f ?_;refine g_l ?_
    first|refine ZAV rfl rfl rfl rfl ?_|refine ZAB rfl rfl rfl rfl rfl (fun _=>A_ff ce (ZAf rfl rfl)) ?_
    refine g_m ?_;refine g_f ?_;refine g_l ?_;refine g_m ?_;refine g_q ?_;refine g_f ?_;refine g_l ?_
    first|refine ZAV rfl rfl rfl rfl ?_|refine ZAB rfl rfl rfl rfl rfl (fun _=>A_ff cv (ZAf rfl rfl)) ?_
    refine g_p ?_;refine z_p ?_;refine z_m ?_;refine g_f ?_;refine g_l ?_;refine g_m ?_;refine g_q ?_;refine g_f ?_;refine g_f ?_;refine g_l ?_;refine z_o ?_;refine z_p ?_;refine z_m ?_;refine g_m ?_;refine g_q ?_;refine g_f ?_;refine g_r ?_;refine g_f ?_;refine g_r ?_;refine ZAF [0,1,2,3,4,5,6,7,8,9,10,11,12,13,14,15,16,17,18,19,20,21,22,23,24,25,26,27,28,29,30,31,32,33,34,35,36,37] (by kernel_rfl) rfl (ZAA rfl) rfl nb rfl (ZBP rfl ?_);refine z_p ?_;refine ZAM (ZAA rfl) nb' ?_;have hr0:rOk W V land D r=false:=decide_eq_false (fun e=>e.2.1.elim ce cv);refine zy ?_;refine⟨k+1,(by show t.rights.length-(k+1)<t.rights.length-k;omega),rfl,hE6,hk',hnext hr0,rfl,rfl,rfl,rfl,trivial⟩
 ·refine ZAJ hmix [0,1,0,4,12,28,63,127,255,511,1023,2047,4095,8191,4095,20479,53247,118783,262143,524287,1048575,2097151,4194303,8388607,4194303,20971519,54525951,121634815,255852543,536870911,1073741823,2147483647,4294967295,8589934591,17179869183,34359738367,4294967295,73014444031,274877906943,549755813887] [0,1,2,3,4,5,6,7,8,9,10,11,12,13,14,15,16,17,18,19,20,21,22,23,24,25,26,27,28,29,30,31,32,33,34,35,36,37] (some 38) [([39],none)] (by kernel_rfl) (by kernel_rfl) ?_
  refine z_f ?_;refine z_l ?_;refine z_m ?_;refine z_q ?_;refine z_f ?_;refine z_l ?_;refine ZAB rfl rfl rfl rfl rfl (fun _=>A_ff cw (ZAf rfl rfl)) ?_;refine z_m ?_;refine g_f ?_;refine g_l ?_;refine z_o ?_;refine g_m ?_;refine g_f ?_;refine g_l ?_;refine g_m ?_;refine g_q ?_;refine g_f ?_;refine g_l ?_;refine z_o ?_;refine g_p ?_;refine z_p ?_;refine z_m ?_;refine g_f ?_;refine g_l ?_;refine g_m ?_;refine g_q ?_;refine g_f ?_;refine g_f ?_;refine g_l ?_;refine z_o ?_;refine z_p ?_;refine z_m ?_;refine g_m ?_;refine g_q ?_;refine g_f ?_;refine g_r ?_;refine g_f ?_;refine g_r ?_;refine ZAF [0,1,2,3,4,5,6,7,8,9,10,11,12,13,14,15,16,17,18,19,20,21,22,23,24,25,26,27,28,29,30,31,32,33,34,35,36,37] (by kernel_rfl) rfl (ZAA rfl) rfl nb rfl (ZBP rfl ?_)
  refine z_p ?_;refine ZAM (ZAA rfl) nb' ?_;have hr0:rOk W V land D r=false:=decide_eq_false (fun e=>cw e.1);refine zy ?_;refine⟨k+1,(by show t.rights.length-(k+1)<t.rights.length-k;omega),rfl,hE6,hk',hnext hr0,rfl,rfl,rfl,rfl,trivial⟩
def lOk (s:ScS)(D:Sp)(l:ScL):Bool:=decide (l.print=s.print/\l.venue=s.venue/\inSp D l.days)
theorem ZMU (t:ScT)(s:ScS):ZR4 t s=(ZBa t).1.any (lOk s (ZDN t s)):=rfl
set_option maxHeartbeats 2000000 in
theorem ZPk {bS bH bP:Nat}{t:ScT}{s:ScS}{x:ScL}{row:List Value}{h:Heap}(hS:ZBU h bS bH t s)(hP:h.get bP=some (.cells [.pointer (some ⟨bS,0,none⟩)] 152 false))(hx:ScLR h row x):Sv Tryz.prog 177 ([]++([.agg ⟨row⟩]++[.pointer (some ⟨bP,0,none⟩)])) h (RetP fun v h'=>v=.bool (lOk s (ZDN t s) x)/\Ext h h'):=by
 obtain rfl:=hx;have hgS:=hS.row;generalize ZDN t s=D at *;refine ZAy fun hw=>?_;refine ZAH Tryz.func177 rfl (by rw[Tryz.ntmps177];rfl) ?_;show Wc Tryz.prog ⟨177,31,none⟩ _ _ _ _ _;refine zy ?_;refine ZAa rfl rfl rfl fun h1 hE1 hW1 hg1 hn1=>?_;replace hgS:=hE1.get hgS;replace hP:=hE1.get hP;generalize h.nx=b1 at *;refine zy ?_
 by_cases c1:x.print=s.print
 ·by_cases c2:x.venue=s.venue
  ·by_cases c3:inSp D x.days
   ·refine ZAJ hmix [0,1,0,4,12,28,60,127,255,511,1023,511,2559,6655,14847,31231,65535,131071,262143,524287,1048575,2097151,4194303,524287,8912895,33554431,67108863,134217727] [0,1,2,3,4,5,6,7,8,9,10,11,12,13,14,15,16,17,18,19,20,21,22,23,24] (some 25) [([26],(some 27)),([],none)] (by kernel_rfl) (by kernel_rfl) ?_
    refine z_f ?_;refine z_l ?_;refine z_l ?_;refine z_q ?_;refine z_f ?_;refine z_f ?_;refine z_l ?_;refine ZAB rfl rfl rfl rfl rfl (fun _=>A_tt c1 (ZAX rfl rfl)) ?_;refine z_m ?_;refine g_f ?_;refine g_l ?_;refine g_l ?_;refine g_q ?_;refine g_f ?_;refine g_f ?_;refine g_l ?_
    first|refine ZAV rfl rfl rfl rfl ?_|refine ZAB rfl rfl rfl rfl rfl (fun _=>A_tt c2 (ZAX rfl rfl)) ?_
    refine z_p ?_;refine z_m ?_;refine g_l ?_;refine g_q ?_;refine g_f ?_;refine g_r ?_;refine g_f ?_;refine g_r ?_;refine ZAF [0,1,2,3,4,5,6,7,8,9,10,11,12,13,14,15,16,17,18,19,20,21,22,23,24] (by kernel_rfl) rfl (ZAA rfl) rfl nb rfl (ZAZ rfl rfl rfl rfl rfl Bod.h (ZKR c3 (ZBx (s:=D) (a:=x.days))) (fun h2 hE2=>?_));refine z_p ?_;refine ZAF [0,1,2,3,4,5,6,7,8,9,10,11,12,13,14,15,16,17,18,19,20,21,22,23,24,25,26] (by kernel_rfl) rfl (ZAA rfl) rfl nb rfl (ZAj rfl rfl (ZAO rfl) ?_);refine ZAM (ZAA rfl) nb' ?_;refine zy ?_;exact ZAC (ZAD rfl ⟨by rw[show lOk s D x=true from decide_eq_true ⟨c1,c2,c3⟩];rfl,hE1.trans hE2⟩)
   ·refine ZAJ hmix [0,1,0,4,12,28,60,127,255,511,1023,511,2559,6655,14847,31231,65535,131071,262143,524287,1048575,2097151,4194303,524287,8912895,33554431,67108863,134217727] [0,1,2,3,4,5,6,7,8,9,10,11,12,13,14,15,16,17,18,19,20,21,22,23,24] (some 25) [([26],(some 27)),([],none)] (by kernel_rfl) (by kernel_rfl) ?_
    refine z_f ?_;refine z_l ?_;refine z_l ?_;refine z_q ?_;refine z_f ?_;refine z_f ?_;refine z_l ?_;refine ZAB rfl rfl rfl rfl rfl (fun _=>A_tt c1 (ZAX rfl rfl)) ?_;refine z_m ?_;refine g_f ?_;refine g_l ?_;refine g_l ?_;refine g_q ?_;refine g_f ?_;refine g_f ?_;refine g_l ?_
    first|refine ZAV rfl rfl rfl rfl ?_|refine ZAB rfl rfl rfl rfl rfl (fun _=>A_tt c2 (ZAX rfl rfl)) ?_
    refine z_p ?_;refine z_m ?_;refine g_l ?_;refine g_q ?_;refine g_f ?_;refine g_r ?_;refine g_f ?_;refine g_r ?_;refine ZAF [0,1,2,3,4,5,6,7,8,9,10,11,12,13,14,15,16,17,18,19,20,21,22,23,24] (by kernel_rfl) rfl (ZAA rfl) rfl nb rfl (ZAZ rfl rfl rfl rfl rfl Bod.h (ZJl c3 (ZBx (s:=D) (a:=x.days))) (fun h2 hE2=>?_));refine z_p ?_;refine ZAF [0,1,2,3,4,5,6,7,8,9,10,11,12,13,14,15,16,17,18,19,20,21,22,23,24,25,26] (by kernel_rfl) rfl (ZAA rfl) rfl nb rfl (ZAj rfl rfl (ZAO rfl) ?_);refine ZAM (ZAA rfl) nb' ?_;refine zy ?_;exact ZAC (ZAD rfl ⟨by rw[show lOk s D x=false from decide_eq_false (fun e=>c3 e.2.2)];rfl,hE1.trans hE2⟩)
  ·refine ZAJ hmix [0,1,0,4,12,28,60,127,255,511,1023,511,2559,6655,14847,31231,65535,131071,262143,524287,1048575,2097151,4194303,524287,8912895,33554431,67108863,134217727] [0,1,2,3,4,5,6,7,8,9,10,11,12,13,14,15,16,17,18,19,20,21,22,23,24] (some 25) [([26],(some 27)),([],none)] (by kernel_rfl) (by kernel_rfl) ?_
   refine z_f ?_;refine z_l ?_;refine z_l ?_;refine z_q ?_;refine z_f ?_;refine z_f ?_;refine z_l ?_;refine ZAB rfl rfl rfl rfl rfl (fun _=>A_tt c1 (ZAX rfl rfl)) ?_;refine z_m ?_;refine g_f ?_;refine g_l ?_;refine g_l ?_;refine g_q ?_;refine g_f ?_;refine g_f ?_;refine g_l ?_
   first|refine ZAV rfl rfl rfl rfl ?_|refine ZAB rfl rfl rfl rfl rfl (fun _=>A_ff c2 (ZAX rfl rfl)) ?_
   refine z_p ?_;refine z_m ?_;refine g_l ?_;refine g_q ?_;refine g_f ?_;refine g_r ?_;refine g_f ?_;refine g_r ?_;refine ZAF [0,1,2,3,4,5,6,7,8,9,10,11,12,13,14,15,16,17,18,19,20,21,22,23,24] (by kernel_rfl) rfl (ZAA rfl) rfl nb rfl (ZBP rfl ?_);refine z_p ?_;refine ZAF [0,1,2,3,4,5,6,7,8,9,10,11,12,13,14,15,16,17,18,19,20,21,22,23,24,25,26] (by kernel_rfl) rfl (ZAA rfl) rfl nb rfl (ZAj rfl rfl (ZAO rfl) ?_);refine ZAM (ZAA rfl) nb' ?_;refine zy ?_;exact ZAC (ZAD rfl ⟨by rw[show lOk s D x=false from decide_eq_false (fun e=>c2 e.2.1)];rfl,hE1⟩)
 ·refine ZAJ hmix [0,1,0,4,12,28,60,127,255,511,1023,511,2559,6655,14847,31231,65535,131071,262143,524287,1048575,2097151,4194303,524287,8912895,33554431,67108863,134217727] [0,1,2,3,4,5,6,7,8,9,10,11,12,13,14,15,16,17,18,19,20,21,22,23,24] (some 25) [([26],(some 27)),([],none)] (by kernel_rfl) (by kernel_rfl) ?_
  refine z_f ?_;refine z_l ?_;refine z_l ?_;refine z_q ?_;refine z_f ?_;refine z_f ?_;refine z_l ?_;refine ZAB rfl rfl rfl rfl rfl (fun _=>A_ff c1 (ZAX rfl rfl)) ?_;refine z_m ?_;refine g_f ?_;refine g_l ?_;refine g_l ?_;refine g_q ?_;refine g_f ?_;refine g_f ?_;refine g_l ?_;refine z_o ?_;refine z_p ?_;refine z_m ?_;refine g_l ?_;refine g_q ?_;refine g_f ?_;refine g_r ?_;refine g_f ?_;refine g_r ?_;refine ZAF [0,1,2,3,4,5,6,7,8,9,10,11,12,13,14,15,16,17,18,19,20,21,22,23,24] (by kernel_rfl) rfl (ZAA rfl) rfl nb rfl (ZBP rfl ?_);refine z_p ?_;refine ZAF [0,1,2,3,4,5,6,7,8,9,10,11,12,13,14,15,16,17,18,19,20,21,22,23,24,25,26] (by kernel_rfl) rfl (ZAA rfl) rfl nb rfl (ZAj rfl rfl (ZAO rfl) ?_)
  refine ZAM (ZAA rfl) nb' ?_;refine zy ?_;exact ZAC (ZAD rfl ⟨by rw[show lOk s D x=false from decide_eq_false (fun e=>c1 e.1)];rfl,hE1⟩)
def kOk (s:ScS)(D:Sp)(k:ScK):Bool:=decide (k.pack=s.pack/\k.venue=s.venue/\inSp D k.window)
theorem ZOF (t:ScT)(s:ScS):keyB t s=t.keys.any (kOk s ⟨s.minute,endS t s⟩):=rfl
set_option maxHeartbeats 2000000 in
theorem ZKo {bS bH bP:Nat}{t:ScT}{s:ScS}{x:ScK}{row:List Value}{h:Heap}(hS:ZBU h bS bH t s)(hP:h.get bP=some (.cells [.pointer (some ⟨bS,0,none⟩)] 152 false))(hx:ScKR h row x):Sv Tryz.prog 180 ([]++([.agg ⟨row⟩]++[.pointer (some ⟨bP,0,none⟩)])) h (RetP fun v h'=>v=.bool (kOk s ⟨s.minute,endS t s⟩ x)/\Ext h h'):=by
 obtain rfl:=hx;have hgS:=hS.row;generalize endS t s=E at *;refine ZAy fun hw=>?_;refine ZAH Tryz.func180 rfl (by rw[Tryz.ntmps180];rfl) ?_;show Wc Tryz.prog ⟨180,37,none⟩ _ _ _ _ _;refine zy ?_;refine ZAa rfl rfl rfl fun h1 hE1 hW1 hg1 hn1=>?_;replace hgS:=hE1.get hgS;replace hP:=hE1.get hP;generalize h.nx=b1 at *;refine zy ?_
 by_cases c1:x.pack=s.pack
 ·by_cases c2:x.venue=s.venue
  ·by_cases c3:inSp ⟨s.minute,E⟩ x.window
   ·refine ZAJ hmix [0,1,0,4,12,28,60,127,255,511,1023,511,2559,6655,14847,31231,65535,131071,262143,524287,1048575,2097151,4194303,8388607,524287,17301503,50855935,117964799,268435455,524287,537395199,2147483647,4294967295,8589934591] [0,1,2,3,4,5,6,7,8,9,10,11,12,13,14,15,16,17,18,19,20,21,22,23,24,25,26,27,28,29,30] (some 31) [([32],(some 33)),([],none)] (by kernel_rfl) (by kernel_rfl) ?_
    refine z_f ?_;refine z_l ?_;refine z_l ?_;refine z_q ?_;refine z_f ?_;refine z_f ?_;refine z_l ?_;refine ZAB rfl rfl rfl rfl rfl (fun _=>A_tt c1 (ZAX rfl rfl)) ?_;refine z_m ?_;refine g_f ?_;refine g_l ?_;refine g_l ?_;refine g_q ?_;refine g_f ?_;refine g_f ?_;refine g_l ?_
    first|refine ZAV rfl rfl rfl rfl ?_|refine ZAB rfl rfl rfl rfl rfl (fun _=>A_tt c2 (ZAX rfl rfl)) ?_
    refine z_p ?_;refine z_m ?_;refine g_l ?_;refine g_q ?_;refine g_f ?_;refine g_f ?_;refine g_l ?_;refine g_l ?_;refine g_q ?_;refine g_f ?_;refine g_l ?_;refine g_b ?_;refine g_f ?_;refine g_r ?_;refine ZAF [0,1,2,3,4,5,6,7,8,9,10,11,12,13,14,15,16,17,18,19,20,21,22,23,24,25,26,27,28,29,30] (by kernel_rfl) rfl (ZAA rfl) rfl nb rfl (ZAZ rfl rfl rfl rfl rfl Bod.h (ZKR c3 (ZBx (s:=⟨s.minute,E⟩) (a:=x.window))) (fun h2 hE2=>?_));refine z_p ?_;refine ZAF [0,1,2,3,4,5,6,7,8,9,10,11,12,13,14,15,16,17,18,19,20,21,22,23,24,25,26,27,28,29,30,31,32] (by kernel_rfl) rfl (ZAA rfl) rfl nb rfl (ZAj rfl rfl (ZAO rfl) ?_)
    refine ZAM (ZAA rfl) nb' ?_;refine zy ?_;exact ZAC (ZAD rfl ⟨by rw[show kOk s ⟨s.minute,E⟩ x=true from decide_eq_true ⟨c1,c2,c3⟩];rfl,hE1.trans hE2⟩)
   ·refine ZAJ hmix [0,1,0,4,12,28,60,127,255,511,1023,511,2559,6655,14847,31231,65535,131071,262143,524287,1048575,2097151,4194303,8388607,524287,17301503,50855935,117964799,268435455,524287,537395199,2147483647,4294967295,8589934591] [0,1,2,3,4,5,6,7,8,9,10,11,12,13,14,15,16,17,18,19,20,21,22,23,24,25,26,27,28,29,30] (some 31) [([32],(some 33)),([],none)] (by kernel_rfl) (by kernel_rfl) ?_
    refine z_f ?_;refine z_l ?_;refine z_l ?_;refine z_q ?_;refine z_f ?_;refine z_f ?_;refine z_l ?_;refine ZAB rfl rfl rfl rfl rfl (fun _=>A_tt c1 (ZAX rfl rfl)) ?_;refine z_m ?_;refine g_f ?_;refine g_l ?_;refine g_l ?_;refine g_q ?_;refine g_f ?_;refine g_f ?_;refine g_l ?_
    first|refine ZAV rfl rfl rfl rfl ?_|refine ZAB rfl rfl rfl rfl rfl (fun _=>A_tt c2 (ZAX rfl rfl)) ?_
    refine z_p ?_;refine z_m ?_;refine g_l ?_;refine g_q ?_;refine g_f ?_;refine g_f ?_;refine g_l ?_;refine g_l ?_;refine g_q ?_;refine g_f ?_;refine g_l ?_;refine g_b ?_;refine g_f ?_;refine g_r ?_;refine ZAF [0,1,2,3,4,5,6,7,8,9,10,11,12,13,14,15,16,17,18,19,20,21,22,23,24,25,26,27,28,29,30] (by kernel_rfl) rfl (ZAA rfl) rfl nb rfl (ZAZ rfl rfl rfl rfl rfl Bod.h (ZJl c3 (ZBx (s:=⟨s.minute,E⟩) (a:=x.window))) (fun h2 hE2=>?_));refine z_p ?_;refine ZAF [0,1,2,3,4,5,6,7,8,9,10,11,12,13,14,15,16,17,18,19,20,21,22,23,24,25,26,27,28,29,30,31,32] (by kernel_rfl) rfl (ZAA rfl) rfl nb rfl (ZAj rfl rfl (ZAO rfl) ?_)
    refine ZAM (ZAA rfl) nb' ?_;refine zy ?_;exact ZAC (ZAD rfl ⟨by rw[show kOk s ⟨s.minute,E⟩ x=false from decide_eq_false (fun e=>c3 e.2.2)];rfl,hE1.trans hE2⟩)
  ·refine ZAJ hmix [0,1,0,4,12,28,60,127,255,511,1023,511,2559,6655,14847,31231,65535,131071,262143,524287,1048575,2097151,4194303,8388607,524287,17301503,50855935,117964799,268435455,524287,537395199,2147483647,4294967295,8589934591] [0,1,2,3,4,5,6,7,8,9,10,11,12,13,14,15,16,17,18,19,20,21,22,23,24,25,26,27,28,29,30] (some 31) [([32],(some 33)),([],none)] (by kernel_rfl) (by kernel_rfl) ?_
   refine z_f ?_;refine z_l ?_;refine z_l ?_;refine z_q ?_;refine z_f ?_;refine z_f ?_;refine z_l ?_;refine ZAB rfl rfl rfl rfl rfl (fun _=>A_tt c1 (ZAX rfl rfl)) ?_;refine z_m ?_;refine g_f ?_;refine g_l ?_;refine g_l ?_;refine g_q ?_;refine g_f ?_;refine g_f ?_;refine g_l ?_
   first|refine ZAV rfl rfl rfl rfl ?_|refine ZAB rfl rfl rfl rfl rfl (fun _=>A_ff c2 (ZAX rfl rfl)) ?_
   refine z_p ?_;refine z_m ?_;refine g_l ?_;refine g_q ?_;refine g_f ?_;refine g_f ?_;refine g_l ?_;refine g_l ?_;refine g_q ?_;refine g_f ?_;refine g_l ?_;refine g_b ?_;refine g_f ?_;refine g_r ?_;refine ZAF [0,1,2,3,4,5,6,7,8,9,10,11,12,13,14,15,16,17,18,19,20,21,22,23,24,25,26,27,28,29,30] (by kernel_rfl) rfl (ZAA rfl) rfl nb rfl (ZBP rfl ?_);refine z_p ?_;refine ZAF [0,1,2,3,4,5,6,7,8,9,10,11,12,13,14,15,16,17,18,19,20,21,22,23,24,25,26,27,28,29,30,31,32] (by kernel_rfl) rfl (ZAA rfl) rfl nb rfl (ZAj rfl rfl (ZAO rfl) ?_);refine ZAM (ZAA rfl) nb' ?_;refine zy ?_;exact ZAC (ZAD rfl ⟨by rw[show kOk s ⟨s.minute,E⟩ x=false from decide_eq_false (fun e=>c2 e.2.1)];rfl,hE1⟩)
 ·refine ZAJ hmix [0,1,0,4,12,28,60,127,255,511,1023,511,2559,6655,14847,31231,65535,131071,262143,524287,1048575,2097151,4194303,8388607,524287,17301503,50855935,117964799,268435455,524287,537395199,2147483647,4294967295,8589934591] [0,1,2,3,4,5,6,7,8,9,10,11,12,13,14,15,16,17,18,19,20,21,22,23,24,25,26,27,28,29,30] (some 31) [([32],(some 33)),([],none)] (by kernel_rfl) (by kernel_rfl) ?_
  refine z_f ?_;refine z_l ?_;refine z_l ?_;refine z_q ?_;refine z_f ?_;refine z_f ?_;refine z_l ?_;refine ZAB rfl rfl rfl rfl rfl (fun _=>A_ff c1 (ZAX rfl rfl)) ?_;refine z_m ?_;refine g_f ?_;refine g_l ?_;refine g_l ?_;refine g_q ?_;refine g_f ?_;refine g_f ?_;refine g_l ?_;refine z_o ?_;refine z_p ?_;refine z_m ?_;refine g_l ?_;refine g_q ?_;refine g_f ?_;refine g_f ?_;refine g_l ?_;refine g_l ?_;refine g_q ?_;refine g_f ?_;refine g_l ?_;refine g_b ?_;refine g_f ?_;refine g_r ?_;refine ZAF [0,1,2,3,4,5,6,7,8,9,10,11,12,13,14,15,16,17,18,19,20,21,22,23,24,25,26,27,28,29,30] (by kernel_rfl) rfl (ZAA rfl) rfl nb rfl (ZBP rfl ?_)
  refine z_p ?_;refine ZAF [0,1,2,3,4,5,6,7,8,9,10,11,12,13,14,15,16,17,18,19,20,21,22,23,24,25,26,27,28,29,30,31,32] (by kernel_rfl) rfl (ZAA rfl) rfl nb rfl (ZAj rfl rfl (ZAO rfl) ?_);refine ZAM (ZAA rfl) nb' ?_;refine zy ?_;exact ZAC (ZAD rfl ⟨by rw[show kOk s ⟨s.minute,E⟩ x=false from decide_eq_false (fun e=>c1 e.1)];rfl,hE1⟩)
def maxL:List Int->Int
 | []=>0
 | x::l=>l.foldl max x
theorem ZKd {l:List Int}(h:l≠[])(y:Int):maxL (l++[y])=max (maxL l) y:=by
 cases l with
 | nil=>exact absurd rfl h
 | cons x l=>simp[maxL,List.foldl_append]
theorem ZP8 {l:List Int}(h:l≠[])(c:Int):(c<maxL l) ↔ (l.any fun n=>decide (c<n))=true:=by
 refine ZRF (p:=fun l=>l≠[]->((c<maxL l) ↔ (l.any fun n=>decide (c<n))=true)) (fun h=>absurd rfl h) (fun l x ih _=>?_) l h
 by_cases e:l=[]
 ·subst e;simp[maxL]
 ·rw[ZKd e,List.any_append,Bool.or_eq_true,<-ih e]
  simp only[List.any_cons,List.any_nil,Bool.or_false,decide_eq_true_eq];omega
theorem ZNk {a:Option Addr}{cap:Nat}{l:List Int}{h:Heap}(hI:ZBz h a l)(h0:l≠[])(hL:Len l):Sv Tryz.prog 179 [.slice a l.length cap] h (RetP fun v h'=>v=i64 (maxL l)/\h'=h):=by
 have hp:0<l.length:=List.length_pos_iff.2 h0;obtain⟨b,o,oa,rfl,hc⟩:=hI 0 hp;refine ZAH Tryz.func179 rfl (by rw[Tryz.ntmps179];rfl) ?_;show Wc Tryz.prog ⟨179,25,none⟩ _ _ _ _ _;refine zy ?_;refine ZAI rfl rfl rfl rfl (A_ff (by omega) (ZAW rfl rfl)) ?_;refine zy ?_;refine ZAI rfl rfl rfl rfl (ZAK (k:=0) Und.h Tsz.h rfl rfl rfl hp) ?_;refine zy ?_;refine ZAT (fun (k:Nat) m ds h'=>ds=[]/\h=h'/\1<=k/\k<=l.length/\AllK m [(0,.slice (some ⟨b,o,oa⟩) l.length cap),(3,i64 (maxL (l.take k))),(4,i64 k)]) (fun k=>l.length-k) 1 ?_ ?_
 ·refine⟨rfl,rfl,Nat.le_refl _,hp,rfl,?_,rfl,trivial⟩
  cases l with
  | nil=>exact absurd rfl h0
  | cons x l=>rfl
 rintro k m ds h' ⟨rfl,rfl,hk1,hk,hall⟩;refine Wc.le ?_ (Le.kn hall);refine zy ?_;refine ZAE rfl rfl rfl rfl (ZAW rfl rfl) (fun h4=>?_) (fun h4=>?_)
 ·have hk':k<l.length:=by simpa using h4
  obtain⟨b',o',oa',e',hc'⟩:=hI k hk';cases e';have hm:maxL (l.take (k+1))=max (maxL (l.take k)) l[k]:=by
   rw[List.take_add_one,List.getElem?_eq_getElem hk'];exact ZKd (fun e=>by have:=congrArg List.length e;rw[List.length_take,List.length_nil] at this;omega) _
  refine zy ?_;refine ZAI rfl rfl rfl rfl (A_ix Und.h Tsz.h rfl rfl) ?_;refine zy ?_;refine ZAI rfl rfl rfl rfl (ZRe rfl rfl) ?_;refine zy ?_;refine⟨k+1,(by show l.length-(k+1)<l.length-k;omega),rfl,rfl,by omega,hk',rfl,?_,rfl,trivial⟩;rw[hm];rfl
 have hk2:k=l.length:=by omega
 subst hk2;rw[List.take_length];refine zy ?_;exact ZAC (ZAD rfl ⟨rfl,rfl⟩)
set_option maxHeartbeats 2000000 in
theorem ZRb {bS bH:Nat}{t:ScT}{s:ScS}{h:Heap}(hS:ZBU h bS bH t s)(hH:ZCu h bH t)(hO:ScOk t)(hs0:ZAQ t s=0):Sv Tryz.prog 144 [.pointer (some ⟨bS,0,none⟩)] h (RetP fun v h'=>v=i64 (if s.print<0 then 0 else ZG5 t s)/\Ext h h'):=by
 obtain⟨row,ag,cg,aw,cw,ht,hgH,hGr,-⟩:=hH;obtain⟨al,cl,at',ct,a1,c1',a2,c2',a3,c3',a4,c4',a5,c5',a6,c6',rfl,m1,m2,m3,m4,m5,m6,m7,m8⟩:=ht;replace hgH:h.get bH=some (.cells [i64 t.first,.slice al t.lands.length cl,.slice at' t.travel.length ct,.slice a1 t.venues.length c1',.slice a2 t.rights.length c2',.slice a3 t.prints.length c3',.slice a4 t.packs.length c4',.slice a5 t.keys.length c5',.slice a6 t.loans.length c6',.slice ag (ZBa t).1.length cg,.slice aw (ZBa t).2.length cw] 147 false):=hgH;have hgS:=hS.row;have q1:=hO.prints1;have q2:(ZBa t).1.length<=t.loans.length:=by rw[<-ZGb];exact (ZHT hO (Nat.le_refl _)).2.1
 have q3:=hO.loans1;obtain⟨⟨v1,v2⟩,hpp,-,⟨sp1,sp2⟩,-⟩:=ZAo hs0;refine ZAy fun hw=>?_;refine ZAH Tryz.func144 rfl (by rw[Tryz.ntmps144];rfl) ?_;show Wc Tryz.prog ⟨144,81,none⟩ _ _ _ _ _;refine zy ?_;refine ZAa rfl rfl rfl fun h1 hE1 hW1 hg1 hn1=>?_;have k1:=hE1.get hgS;have kH1:=hE1.get hgH;have hS1:=hS.ext hE1;refine zy ?_
 by_cases c0:s.print<0
 ·refine ZAI rfl rfl rfl rfl (A_tt c0 (ZAW rfl rfl)) ?_
  refine zy ?_;exact ZAC (ZAD rfl ⟨by rw[if_pos c0];rfl,hE1⟩)
 rw[if_neg c0];refine ZAI rfl rfl rfl rfl (A_ff c0 (ZAW rfl rfl)) ?_;refine zy ?_;have hprint:0<=s.print/\s.print<t.prints.length/\s.pack = -1:=by omega
 obtain⟨bp,op,oap,rfl,ap,cp,hrp,hI⟩:=ZKJ (ZAN.ext (R:=ScPR) (fun x y=>ScPR.ext x y) m5 hE1) (s:=s) hprint.1 hprint.2.1;obtain⟨⟨l1,l2⟩,l3,-,-⟩:=ZFS (ZO8 hO hs0 hprint.2.2);have hfilm:ZG5 t s=if (ZBa t).1.any (lOk s (ZDN t s))=false then 212 else if (ZAr t s).proj=0\/¬inSp ⟨s.speed,s.speed⟩ (ZAr t s).speeds\/¬inSp ⟨s.speed,s.speed⟩ (prAt t s).speeds then 215 else if (ZAr t s).spool<maxL (prAt t s).reels then 216 else 0:=by
  unfold ZG5 inSp;rw[ZMU];simp only[ZP8 (show (prAt t s).reels≠[] from fun e=>by rw[e] at l1;simp at l1) (ZAr t s).spool]
 rw[hfilm];have hRl:(prAt t s).reels≠[]:=fun e=>by rw[e] at l1;simp at l1
 have hp1:∀{h':Heap},Ext h1 h'->∀row x,x∈(ZBa t).1->ScLR h' row x->Sv Tryz.prog 177 ([]++([.agg ⟨row⟩]++[.pointer (some ⟨h.nx,0,none⟩)])) h' (RetP fun v h''=>v=.bool (lOk s (ZDN t s) x)/\Ext h' h''):=fun hE row x _ hx=>ZPk (hS1.ext hE) (hE.get hg1) hx;generalize ZDN t s=D at *;generalize endS t s=E at *;generalize ZEs t s=W at *;generalize ZEq t s=V at *;generalize hVe:ZAr t s=Ve at *;generalize hPr:prAt t s=Pr at *;have hEa:=Ext.add hW1 (.cells [str [],str [],str [],.slice none 0 0,i64 0,i64 0,i64 0] 56 false);have hEb:=hEa.trans (Ext.add (hW1.add _) (.cells [str [],i64 0,i64 0,i64 0,i64 0,i64 0,i64 0,i64 0,.bool false] 54 false))
 have ga:((h1.add (.cells [str [],str [],str [],.slice none 0 0,i64 0,i64 0,i64 0] 56 false)).add (.cells [str [],i64 0,i64 0,i64 0,i64 0,i64 0,i64 0,i64 0,.bool false] 54 false)).get h1.nx=some (.cells [str [],str [],str [],.slice none 0 0,i64 0,i64 0,i64 0] 56 false):=(Ext.add (hW1.add _) _).get Heap.get_add_same;have gb:((h1.add (.cells [str [],str [],str [],.slice none 0 0,i64 0,i64 0,i64 0] 56 false)).add (.cells [str [],i64 0,i64 0,i64 0,i64 0,i64 0,i64 0,i64 0,.bool false] 54 false)).get (h1.nx+1)=some (.cells [str [],i64 0,i64 0,i64 0,i64 0,i64 0,i64 0,i64 0,.bool false] 54 false):=Heap.get_add_same
 refine ZAJ hmix [0,1,3,7,15,31,63,127,255,0,512,1536,3584,7680,16383,32767,0,65536,196608,458752,0,0,3211263,8388607] [0,1,2,3,4,5,6,7,8,9,10,11,12,13,14,15,16,17,18,19,20,21] (some 22) [([],(some 23)),([],none)] (by kernel_rfl) (by kernel_rfl) ?_;refine z_l ?_;refine z_q ?_;refine z_f ?_;refine z_l ?_;refine z_q ?_;refine z_f ?_;refine z_f ?_;refine z_f ?_;refine z_l ?_;refine z_l ?_;refine z_q ?_;refine z_f ?_;refine z_f ?_;refine z_l ?_;refine ZAB rfl rfl rfl rfl rfl (fun _=>ZAK (k:=s.print.toNat) Und.h Tsz.h rfl rfl (by omega) (by omega)) ?_;refine z_r ?_;refine z_l ?_;refine z_q ?_;refine z_f ?_;refine z_r ?_
 refine ZCb (nk:=.ptr) rfl rfl rfl rfl rfl (fun _ _ _=>ZEl Zr.h) ?_;refine ZCb (nk:=.ptr) rfl rfl rfl rfl rfl (fun _ _ _=>ZEl Zr.h) ?_;refine ZAF (h1:=(Heap.add (Heap.add h1 _) _)) [0,1,2,3,4,5,6,7,8,9,10,11,12,13,14,15,20,21] (by kernel_rfl) rfl (ZAA rfl) rfl rfl rfl (ZBS (ZBD rfl rfl Tsz.h rfl rfl ga rfl rfl rfl (fun h5 hU5 hW5=>?_)));have hE5:=hU5.ext hEb hW1 (Nat.le_refl _);have gb5:=hU5.get (show h1.nx+1≠h1.nx by omega) gb;have k5:=hE5.get k1;have kg5:=hE5.get hg1;refine ZAF (h1:=h5) [0,1,2,3,4,5,6,7,8,9,10,11,12,13,14,15,16,17,18,19,20,21,22] (by kernel_rfl) rfl (by refine t_r 19 ?_;refine t_f 18 ?_;refine t_q 17 ?_;refine t_l 16 ?_;exact ZAA rfl) rfl rfl rfl (ZBS (ZBD rfl rfl Tsz.h rfl rfl gb5 rfl rfl rfl (fun h6 hU6 hW6=>?_)))
 have hE6:=hU6.ext hE5 hW1 (Nat.le_succ _);refine ZAM (h1:=h6) (ZAA rfl) rfl ?_;have gP:=hU6.get (show h1.nx≠h1.nx+1 by omega) hU5.at';have gV:=hU6.at';have k6:=hE6.get k1;have kg6:=hE6.get hg1;have kH6:=hE6.get kH1;clear k5 kg5 gb5 ga gb hEb hEa hU5 hU6 hE5 hW5;generalize h1.nx+1=bV at *;generalize h1.nx=bP at *;refine zy ?_;refine ZAJ hmix [0,1,3,7,15,0,32,96,224,480,1023,0,4095] [0,1,2,3,4,5,6,7,8,9,10,11] (some 12) [([],none)] (by kernel_rfl) (by kernel_rfl) ?_;refine z_l ?_;refine z_q ?_;refine z_f ?_;refine z_f ?_;refine z_l ?_;refine z_l ?_;refine z_q ?_;refine z_f ?_;refine z_f ?_;refine z_l ?_;refine z_b ?_
 refine ZCb (nk:=.ptr) rfl rfl rfl rfl rfl (fun _ _ _=>ZEl Zr.h) ?_;refine ZAF (h1:=(Heap.add h6 _)) [0,1,2,3,4,5,6,7,8,9,10,11] (by kernel_rfl) rfl (ZAA rfl) rfl rfl rfl (ZBS (ZBD rfl rfl Tsz.h rfl rfl Heap.get_add_same rfl rfl rfl (fun h7 hU7 hW7=>?_)));have hE67:=hU7.ext (Ext.add hW6 _) hW6 (Nat.le_refl _);refine ZAM (h1:=h7) (ZAA rfl) rfl ?_;have gQ:=hU7.at';replace gP:=hE67.get gP;replace gV:=hE67.get gV;have k7:=hE67.get k6;have kg7:=hE67.get kg6;have kH7:=hE67.get kH6;have hE7:=hE6.trans hE67;clear k6 kg6 kH6 hU7 hE67 hE6;generalize h6.nx=bQ at *;refine zy ?_;refine ZAn rfl rfl rfl rfl rfl Bod.h rfl rfl (ZGK (first:=[]) (ZAN.ext (R:=ScLR) (fun x _=>x) hGr (hE1.trans hE7)) Bod.h (fun h' hE'=>hp1 (hE7.trans hE')) (by omega)) (fun c1 h8 hE8=>?_) (fun c1 h8 hE8=>?_)
 rotate_left
 ·refine zy ?_
  exact ZAC (ZAD rfl ⟨by rw[if_pos c1];rfl,hE1.trans (hE7.trans hE8)⟩)
 rw[if_neg (by rw[c1];simp)];replace gP:=hE8.get gP;replace gV:=hE8.get gV;replace gQ:=hE8.get gQ;replace hE8:=hE7.trans hE8;clear k7 kg7 kH7 hE7;refine zy ?_;refine ZAE rfl rfl rfl rfl (ZAX rfl rfl) (fun c2=>?_) (fun c2=>?_)
 ·refine zy ?_
  exact ZAC (ZAD rfl ⟨by rw[if_pos (.inl c2)];rfl,hE1.trans hE8⟩)
 refine zy ?_;refine ZAn rfl rfl rfl rfl rfl Bod.h rfl rfl (ZBx (s:=⟨s.speed,s.speed⟩) (a:=Ve.speeds)) (fun c3 h9 hE9=>?_) (fun c3 h9 hE9=>?_);rotate_left
 ·refine zy ?_
  exact ZAC (ZAD rfl ⟨by rw[if_pos (.inr (.inl (of_decide_eq_false c3)))];rfl,hE1.trans (hE8.trans hE9)⟩)
 replace gP:=hE9.get gP;replace gV:=hE9.get gV;replace gQ:=hE9.get gQ;replace hE9:=hE8.trans hE9;refine zy ?_;refine ZAn rfl rfl rfl rfl rfl Bod.h rfl rfl (ZBx (s:=⟨s.speed,s.speed⟩) (a:=Pr.speeds)) (fun c4 h10 hE10=>?_) (fun c4 h10 hE10=>?_);rotate_left
 ·refine zy ?_
  exact ZAC (ZAD rfl ⟨by rw[if_pos (.inr (.inr (of_decide_eq_false c4)))];rfl,hE1.trans (hE9.trans hE10)⟩)
 replace gP:=hE10.get gP;replace gV:=hE10.get gV;replace hE10:=hE9.trans hE10;rw[if_neg (fun x=>x.elim c2 fun x=>x.elim (fun y=>y (of_decide_eq_true c3)) (fun y=>y (of_decide_eq_true c4)))];have hI10:=hI.ext hE10;refine zy ?_
 by_cases c5:Ve.spool<maxL Pr.reels
 ·rw[if_pos c5]
  refine ZAJ hmix [0,1,3,0,8,31,63] [0,1,3,4] (some 2) [([5],(some 6)),([],none)] (by kernel_rfl) (by kernel_rfl) ?_;refine z_f ?_;refine z_l ?_;refine z_f ?_;refine z_l ?_;refine ZAF [0,1] (by kernel_rfl) rfl (ZAA rfl) rfl nb rfl (ZAs rfl rfl rfl rfl rfl Bod.h (ZNk hI10 hRl (by omega)) ?_);refine ZAB rfl rfl rfl rfl rfl (fun _=>A_tt c5 (ZB0 rfl rfl)) ?_;refine ZAF [0,1,2,3,4,5] (by kernel_rfl) rfl (by refine t_l 4 ?_;refine t_f 3 ?_;exact ZAA rfl) rfl nb rfl (ZAj rfl rfl (ZAO rfl) ?_);refine ZAM (ZAA rfl) nb' ?_;refine zy ?_;exact ZAC (ZAD rfl ⟨rfl,hE1.trans hE10⟩)
 ·rw[if_neg c5]
  refine ZAJ hmix [0,1,3,0,8,31,63] [0,1,3,4] (some 2) [([5],(some 6)),([],none)] (by kernel_rfl) (by kernel_rfl) ?_;refine z_f ?_;refine z_l ?_;refine z_f ?_;refine z_l ?_;refine ZAF [0,1] (by kernel_rfl) rfl (ZAA rfl) rfl nb rfl (ZAs rfl rfl rfl rfl rfl Bod.h (ZNk hI10 hRl (by omega)) ?_);refine ZAB rfl rfl rfl rfl rfl (fun _=>A_ff c5 (ZB0 rfl rfl)) ?_;refine ZAF [0,1,2,3,4,5] (by kernel_rfl) rfl (by refine t_l 4 ?_;refine t_f 3 ?_;exact ZAA rfl) rfl nb rfl (ZAj rfl rfl (ZAO rfl) ?_);refine ZAM (ZAA rfl) nb' ?_;refine zy ?_;exact ZAC (ZAD rfl ⟨rfl,hE1.trans hE10⟩)
set_option maxHeartbeats 2000000 in
theorem ZMu {bS bH:Nat}{t:ScT}{s:ScS}{h:Heap}(hS:ZBU h bS bH t s)(hH:ZCu h bH t)(hO:ScOk t)(hs0:ZAQ t s=0):Sv Tryz.prog 145 [.pointer (some ⟨bS,0,none⟩)] h (RetP fun v h'=>v=i64 (if s.pack<0 then 0 else ZN7 t s)/\Ext h h'):=by
 obtain⟨row,ag,cg,aw,cw,ht,hgH,hGr,-⟩:=hH;obtain⟨al,cl,at',ct,a1,c1',a2,c2',a3,c3',a4,c4',a5,c5',a6,c6',rfl,m1,m2,m3,m4,m5,m6,m7,m8⟩:=ht;replace hgH:h.get bH=some (.cells [i64 t.first,.slice al t.lands.length cl,.slice at' t.travel.length ct,.slice a1 t.venues.length c1',.slice a2 t.rights.length c2',.slice a3 t.prints.length c3',.slice a4 t.packs.length c4',.slice a5 t.keys.length c5',.slice a6 t.loans.length c6',.slice ag (ZBa t).1.length cg,.slice aw (ZBa t).2.length cw] 147 false):=hgH;have hgS:=hS.row;have q1:=hO.packs1;have q3:=hO.keys1;obtain⟨⟨v1,v2⟩,hpp,-,⟨sp1,sp2⟩,-⟩:=ZAo hs0;refine ZAy fun hw=>?_
 refine ZAH Tryz.func145 rfl (by rw[Tryz.ntmps145];rfl) ?_;show Wc Tryz.prog ⟨145,55,none⟩ _ _ _ _ _;refine zy ?_;refine ZAa rfl rfl rfl fun h1 hE1 hW1 hg1 hn1=>?_;have k1:=hE1.get hgS;have kH1:=hE1.get hgH;have hS1:=hS.ext hE1;refine zy ?_
 by_cases c0:s.pack<0
 ·refine ZAI rfl rfl rfl rfl (A_tt c0 (ZAW rfl rfl)) ?_
  refine zy ?_;exact ZAC (ZAD rfl ⟨by rw[if_pos c0];rfl,hE1⟩)
 rw[if_neg c0];refine ZAI rfl rfl rfl rfl (A_ff c0 (ZAW rfl rfl)) ?_;have hpack:0<=s.pack/\s.pack<t.packs.length:=by omega
 have hp1:∀{h':Heap},Ext h1 h'->∀row x,x∈t.keys->ScKR h' row x->Sv Tryz.prog 180 ([]++([.agg ⟨row⟩]++[.pointer (some ⟨h.nx,0,none⟩)])) h' (RetP fun v h''=>v=.bool (kOk s ⟨s.minute,endS t s⟩ x)/\Ext h' h''):=fun hE row x _ hx=>ZKo (hS1.ext hE) (hE.get hg1) hx;unfold ZN7;rw[ZOF];generalize endS t s=E at *;generalize ZDN t s=D at *;generalize ZEs t s=W at *;generalize ZEq t s=V at *;generalize hVe:ZAr t s=Ve at *;generalize h.nx=b1 at *;refine zy ?_
 cases hd:Ve.digital with
 | false =>
  rw[hd] at k1;refine zy ?_;exact ZAC (ZAD rfl ⟨by rw[if_pos rfl];rfl,hE1⟩)
 | true =>
  rw[hd] at k1;rw[if_neg (by decide)];refine zy ?_;refine ZAn rfl rfl rfl rfl rfl Bod.h rfl rfl (ZGL (first:=[]) (ZAN.ext (R:=ScKR) (fun x _=>x) m7 hE1) Bod.h (fun h' hE'=>hp1 hE') (by omega)) (fun c1 h8 hE8=>?_) (fun c1 h8 hE8=>?_);rotate_left
  ·refine zy ?_
   exact ZAC (ZAD rfl ⟨by rw[if_pos c1];rfl,hE1.trans hE8⟩)
  rw[if_neg (by rw[c1];simp)];have k8:=hE8.get k1;have kH8:=hE8.get kH1;have kg8:=hE8.get hg1;obtain⟨bp,op,oap,rfl,hrp⟩:=ZL1 (ZAN.ext (R:=ZEV) (fun x _=>x) m6 (hE1.trans hE8)) (s:=s) hpack.1 hpack.2;have hcs:ZAc h8 bp (op+s.pack.toNat*5+4)=some (i64 (pkAt t s).speed):=ZAR hrp rfl;generalize pkAt t s=Pk at *;refine zy ?_
  by_cases c2:s.speed=Pk.speed
  ·rw[if_neg (fun e=>e c2)]
   refine ZAJ hmix [0,1,3,7,15,0,32,96,224,480,992,2016,4064,8160,0,16384,49152,114688,245760,524256,1048544,2097120,4194303,8388607] [0,1,2,3,4,5,6,7,8,9,10,11,12,13,14,15,16,17,18,19,20,21,22] (some 23) [([],none)] (by kernel_rfl) (by kernel_rfl) ?_;refine z_l ?_;refine z_q ?_;refine z_f ?_;refine z_f ?_;refine z_l ?_;refine z_l ?_;refine z_q ?_;refine z_f ?_;refine z_l ?_;refine z_q ?_;refine z_f ?_;refine z_f ?_;refine z_f ?_;refine z_l ?_;refine z_l ?_;refine z_q ?_;refine z_f ?_;refine z_f ?_;refine z_l ?_;refine ZAB rfl rfl rfl rfl rfl (fun _=>ZAK (k:=s.pack.toNat) Und.h Tsz.h rfl rfl (by omega) (by omega)) ?_;refine z_f ?_;refine z_l ?_;refine ZAB rfl rfl rfl rfl rfl (fun _=>A_ff (fun e=>e c2) (ZAb rfl rfl)) ?_
   refine ZAF [0,1,2,3,4,5,6,7,8,9,10,11,12,13,14,15,16,17,18,19,20,21,22] (by kernel_rfl) rfl (ZAA rfl) rfl nb rfl (ZAj rfl rfl (ZAO rfl) ?_);refine ZAM (ZAA rfl) nb' ?_;refine zy ?_;exact ZAC (ZAD rfl ⟨rfl,hE1.trans hE8⟩)
  ·rw[if_pos c2]
   refine ZAJ hmix [0,1,3,7,15,0,32,96,224,480,992,2016,4064,8160,0,16384,49152,114688,245760,524256,1048544,2097120,4194303,8388607] [0,1,2,3,4,5,6,7,8,9,10,11,12,13,14,15,16,17,18,19,20,21,22] (some 23) [([],none)] (by kernel_rfl) (by kernel_rfl) ?_;refine z_l ?_;refine z_q ?_;refine z_f ?_;refine z_f ?_;refine z_l ?_;refine z_l ?_;refine z_q ?_;refine z_f ?_;refine z_l ?_;refine z_q ?_;refine z_f ?_;refine z_f ?_;refine z_f ?_;refine z_l ?_;refine z_l ?_;refine z_q ?_;refine z_f ?_;refine z_f ?_;refine z_l ?_;refine ZAB rfl rfl rfl rfl rfl (fun _=>ZAK (k:=s.pack.toNat) Und.h Tsz.h rfl rfl (by omega) (by omega)) ?_;refine z_f ?_;refine z_l ?_;refine ZAB rfl rfl rfl rfl rfl (fun _=>A_tt c2 (ZAb rfl rfl)) ?_
   refine ZAF [0,1,2,3,4,5,6,7,8,9,10,11,12,13,14,15,16,17,18,19,20,21,22] (by kernel_rfl) rfl (ZAA rfl) rfl nb rfl (ZAj rfl rfl (ZAO rfl) ?_);refine ZAM (ZAA rfl) nb' ?_;refine zy ?_;exact ZAC (ZAD rfl ⟨rfl,hE1.trans hE8⟩)
set_option maxHeartbeats 2000000 in
theorem ZR8 {bS bH:Nat}{t:ScT}{s:ScS}{h:Heap}(hS:ZBU h bS bH t s)(hH:ZCu h bH t)(hO:ScOk t)(hs0:ZAQ t s=0):Sv Tryz.prog 89 [.pointer (some ⟨bS,0,none⟩)] h (RetP fun v h'=>v=i64 (whyS t s)/\Ext h h'):=by
 obtain⟨-,hpp,-⟩:=ZAo hs0;have hWh:whyS t s=if ZEc t s=false then 211 else if (if s.print<0 then 0 else ZG5 t s)≠0 then (if s.print<0 then 0 else ZG5 t s) else (if s.pack<0 then 0 else ZN7 t s):=by
  unfold whyS
  split
  ·rfl
  ·rcases hpp with ⟨p1,_,p2⟩|⟨p1,_,p2⟩
   ·rw[if_pos p1,if_neg (show ¬s.print<0 by omega),if_pos (show s.pack<0 by omega)]
    split
    ·rfl
    ·rename_i e;exact Classical.not_not.1 e
   ·rw[if_neg (show ¬0<=s.print by omega),if_pos (show s.print<0 by omega),if_neg (show ¬(0:Int)≠0 by simp),if_neg (show ¬s.pack<0 by omega)]
 have r1:=fun {h':Heap} (hE:Ext h h')=>ZPl (hS.ext hE) (hH.ext hE) hO;have r2:=fun {h':Heap} (hE:Ext h h')=>ZRb (hS.ext hE) (hH.ext hE) hO hs0;have r3:=fun {h':Heap} (hE:Ext h h')=>ZMu (hS.ext hE) (hH.ext hE) hO hs0;rw[hWh];generalize (if s.print<0 then 0 else ZG5 t s)=e2 at *;generalize (if s.pack<0 then 0 else ZN7 t s)=e3 at *;clear hS hH hWh hpp;refine ZAy fun hw=>?_;refine ZAH Tryz.func89 rfl (by rw[Tryz.ntmps89];rfl) ?_;show Wc Tryz.prog ⟨89,24,none⟩ _ _ _ _ _;refine zy ?_;refine ZC8 rfl rfl Und.h Tsz.h Zr.h rfl rfl rfl rfl rfl fun h2 hE2 hW2 hg2 hn2=>?_;generalize h.nx=bF at *;refine zy ?_
 refine ZAT (fun (k:Nat) m ds h'=>ds=[]/\Ext h2 h'/\k<=3/\(0<k->ZEc t s=true)/\(1<k->e2=0)/\(2<k->e3=0) ∧
   AllK m [(12,.slice (some ⟨bF,0,none⟩) 3 3),(13,i64 ((3:Nat):Int)),(14,i64 k)]) (fun k=>3-k) 0 ?_ ?_
 ·exact⟨rfl,Ext.refl _,by decide,(fun h=>absurd h (by decide)),(fun h=>absurd h (by decide)),(fun h=>absurd h (by decide)),rfl,rfl,rfl,trivial⟩
 rintro k m ds h3 ⟨rfl,hE3,hk,z1,z2,z3,hall⟩;have hg3:=hE3.get hg2;refine Wc.le ?_ (Le.kn hall);refine zy ?_;refine ZAE rfl rfl rfl rfl (ZAW rfl rfl) (fun h4=>?_) (fun h4=>?_);rotate_left
 ·have hk3:k=3:=by omega
  subst hk3;refine zy ?_;exact ZAC (ZAD rfl ⟨by rw[z1 (by decide),z2 (by decide),z3 (by decide)];rfl,hE2.trans hE3⟩)
 have hk3:k=0\/k=1\/k=2:=by omega
 rcases hk3 with rfl|rfl|rfl
 ·refine zy ?_
  refine ZAI rfl rfl rfl rfl (ZAK (k:=0) Und.h Tsz.h rfl rfl rfl (by decide)) ?_;refine zy ?_;refine ZAS rfl rfl rfl rfl rfl Bod.h rfl rfl (r1 (hE2.trans hE3)) fun h5 hE5=>?_;refine zy ?_;refine ZAE rfl rfl rfl rfl (ZAb rfl rfl) (fun h6=>?_) (fun h6=>?_)
  ·refine zy ?_
   have hr:ZEc t s=false:=by
    cases hq:ZEc t s
    ·rfl
    ·rw[hq] at h6;exact absurd rfl h6
   exact ZAC (ZAD rfl ⟨by rw[hr];rfl,hE2.trans (hE3.trans hE5)⟩)
  have hr:ZEc t s=true:=by
   cases hq:ZEc t s
   ·rw[hq] at h6;exact absurd (by decide) h6
   ·rfl
  refine zy ?_;exact⟨1,by decide,rfl,hE3.trans hE5,by decide,(fun _=>hr),(fun h=>absurd h (by decide)),(fun h=>absurd h (by decide)),rfl,rfl,rfl,trivial⟩
 ·refine zy ?_
  refine ZAI rfl rfl rfl rfl (ZAK (k:=1) Und.h Tsz.h rfl rfl rfl (by decide)) ?_;refine zy ?_;refine ZAS rfl rfl rfl rfl rfl Bod.h rfl rfl (r2 (hE2.trans hE3)) fun h5 hE5=>?_;refine zy ?_;refine ZAE rfl rfl rfl rfl (ZAb rfl rfl) (fun h6=>?_) (fun h6=>?_)
  ·refine zy ?_
   exact ZAC (ZAD rfl ⟨by rw[z1 (by decide),if_neg (by decide),if_pos h6];rfl,hE2.trans (hE3.trans hE5)⟩)
  replace h6:=Decidable.not_not.1 h6;refine zy ?_;exact⟨2,by decide,rfl,hE3.trans hE5,by decide,(fun _=>z1 (by decide)),(fun _=>h6),(fun h=>absurd h (by decide)),rfl,rfl,rfl,trivial⟩
 ·refine zy ?_
  refine ZAI rfl rfl rfl rfl (ZAK (k:=2) Und.h Tsz.h rfl rfl rfl (by decide)) ?_;refine zy ?_;refine ZAS rfl rfl rfl rfl rfl Bod.h rfl rfl (r3 (hE2.trans hE3)) fun h5 hE5=>?_;refine zy ?_;refine ZAE rfl rfl rfl rfl (ZAb rfl rfl) (fun h6=>?_) (fun h6=>?_)
  ·refine zy ?_
   exact ZAC (ZAD rfl ⟨by rw[z1 (by decide),if_neg (by decide),if_neg (fun e=>e (z2 (by decide)))];rfl,hE2.trans (hE3.trans hE5)⟩)
  replace h6:=Decidable.not_not.1 h6;refine zy ?_;exact⟨3,by decide,rfl,hE3.trans hE5,by decide,(fun _=>z1 (by decide)),(fun _=>z2 (by decide)),(fun _=>h6),rfl,rfl,rfl,trivial⟩
theorem ZPg {h:Heap}{b o:Nat}{x y:Value}(h0:ZAc h b o=some x)(h1:ZAc h b (o+1)=some y):ZB5 h b o 2=some [x,y]:=ZF7 (l:=[x,y]) (Nat.succ_pos _) (fun i hi=>by
 match i,hi with
 | 0,_=>exact h0
 | 1,_=>exact h1)
theorem ZGW {α:Type}{l:List α}{f:α->Bool}{k:Nat}(hk:k<l.length):(l.take (k+1)).any f=((l.take k).any f || f l[k]):=by
 rw[List.take_add_one,List.getElem?_eq_getElem hk,List.any_append];simp
theorem ZBn {s a:Sp}{h:Heap}:Sv Tryz.prog 146 [.agg ⟨[i64 s.lo,i64 s.hi]⟩,.agg ⟨[i64 a.lo,i64 a.hi]⟩] h (RetP fun v h'=>v=.bool (decide (inSp s a))/\Ext h h'):=by
 refine ZAy fun hw=>?_;refine ZAH Tryz.func146 rfl (by rw[Tryz.ntmps146];rfl) ?_;show Wc Tryz.prog ⟨146,17,none⟩ _ _ _ _ _;refine zy ?_;refine ZAa rfl rfl rfl fun h1 hE1 hW1 hg1 hn1=>?_;refine ZAa rfl rfl rfl fun h2 hE2 hW2 hg2 hn2=>?_;replace hg1:=hE2.get hg1;have hE:=hE1.trans hE2;generalize h.nx=b1 at *;generalize h1.nx=b2 at *;refine zy ?_;refine ZAE rfl rfl rfl rfl (ZDX rfl rfl) (fun h3=>?_) (fun h3=>?_)
 ·refine zy ?_
  refine ZAE rfl rfl rfl rfl (ZD7 rfl rfl) (fun h4=>?_) (fun h4=>?_)
  ·refine zy ?_
   exact ZAC (ZAD rfl ⟨by rw[decide_eq_true (show inSp s a from⟨h3,h4⟩)];rfl,hE⟩)
  ·refine zy ?_
   exact ZAC (ZAD rfl ⟨by rw[decide_eq_false (fun e:inSp s a=>h4 e.2)];rfl,hE⟩)
 ·refine zy ?_
  exact ZAC (ZAD rfl ⟨by rw[decide_eq_false (fun e:inSp s a=>h3 e.1)];rfl,hE⟩)
set_option maxHeartbeats 2000000 in
theorem ZMl {tc sr:List Value}{t:ScT}{s:ScS}{D:Sp}{h:Heap}(ht:ZBX h tc t)(hO:ScOk t)(hs0:ZAQ t s=0)(hp:0<=s.print)(hr:ScSR h sr s)(hD:ZDN t s=D):Sv Tryz.prog 147 [.agg ⟨tc⟩,.agg ⟨sr⟩,.agg ⟨[i64 D.lo,i64 D.hi]⟩] h (RetP fun v h'=>v=i64 (ZG5 t s)/\Ext h h'):=by
 have ht0:=ht;obtain⟨al,cl,at',ct,a1,c1',a2,c2',a3,c3',a4,c4',a5,c5',a6,c6',rfl,m1,m2,m3,m4,m5,m6,m7,m8⟩:=ht;obtain rfl:=hr;have q1:=hO.prints1;have q2:(ZBa t).1.length<=t.loans.length:=by rw[<-ZGb];exact (ZHT hO (Nat.le_refl _)).2.1
 have q3:=hO.loans1;have q4:=hO.venues1;obtain⟨⟨v1,v2⟩,hpp,-,⟨sp1,sp2⟩,-⟩:=ZAo hs0;have hprint:0<=s.print/\s.print<t.prints.length/\s.pack = -1:=by omega
 obtain⟨⟨l1,l2⟩,l3,-,-⟩:=ZFS (ZO8 hO hs0 hprint.2.2);have hfilm:ZG5 t s=if (ZBa t).1.any (lOk s D)=false then 212 else if (ZAr t s).proj=0\/¬((ZAr t s).speeds.lo<=s.speed/\s.speed<=(ZAr t s).speeds.hi)\/¬((prAt t s).speeds.lo<=s.speed/\s.speed<=(prAt t s).speeds.hi) then 215 else if ((prAt t s).reels.any fun n=>decide ((ZAr t s).spool<n))=true then 216 else 0:=by
  unfold ZG5;rw[ZMU,hD]
 rw[hfilm];refine ZAy fun hw=>?_;refine ZAH Tryz.func147 rfl (by rw[Tryz.ntmps147];rfl) ?_;show Wc Tryz.prog ⟨147,111,none⟩ _ _ _ _ _;refine zy ?_;refine ZAa rfl rfl rfl fun h1 hE1 hW1 hg1 hn1=>?_;refine ZAa rfl rfl rfl fun h2 hE2 hW2 hg2 hn2=>?_;refine ZAa rfl rfl rfl fun h3 hE3 hW3 hg3 hn3=>?_;replace hg1:=hE3.get (hE2.get hg1);replace hg2:=hE3.get hg2;have hE:=hE1.trans (hE2.trans hE3);generalize h.nx=b1 at *;generalize h1.nx=b2 at *;generalize h2.nx=b3 at *;clear hE1 hE2 hE3 hW1 hW2 hn1 hn2 hn3;refine zy ?_;refine ZAq rfl rfl rfl rfl rfl Bod.h rfl rfl (ZKG (ht0.ext hE) hO) ?_;rintro v h4 ⟨hE4,ag,cg,aw,cw,rfl,hGr,-⟩
 replace hg1:=hE4.get hg1;replace hg2:=hE4.get hg2;replace hg3:=hE4.get hg3;have hEE:=hE.trans hE4;generalize (ZBa t).1=L at *;refine zy ?_;refine ZAT (fun (k:Nat) m ds h'=>ds=[]/\Ext h4 h'/\k<=L.length/\AllK m [(3,.pointer (some ⟨b1,0,none⟩)),(4,.pointer (some ⟨b2,0,none⟩)),(5,.pointer (some ⟨b3,0,none⟩)),(7,.slice ag L.length cg),(9,.bool ((L.take k).any (lOk s D))),(10,i64 k)]) (fun k=>L.length-k) 0 ?_ ?_
 ·exact⟨rfl,Ext.refl _,Nat.zero_le _,rfl,rfl,rfl,rfl,rfl,rfl,trivial⟩
 rintro k m ds h5 ⟨rfl,hE5,hk,hall⟩;refine ZDG fun hw5=>?_;generalize hb:(L.take k).any (lOk s D)=bb at *;refine Wc.le ?_ (Le.kn hall);have k1:=hE5.get hg1;have k2:=hE5.get hg2;have k3:=hE5.get hg3;refine zy ?_;refine ZAE rfl rfl rfl rfl (ZAW rfl rfl) (fun h6=>?_) (fun h6=>?_)
 ·have hk':k<L.length:=by simpa using h6
  obtain⟨bl,ol,oal,rfl,row,hrow,hma⟩:=hGr k hk';have hrow5:=hE5.row hrow;have hnx:=ZGW (f:=lOk s D) hk';rw[hb] at hnx;generalize hmk:L[k]=x at *;obtain rfl:=hma;have z0:ZAc h5 bl (ol+k*4+0)=some (i64 x.print):=ZAR hrow5 rfl;have z1:ZAc h5 bl (ol+k*4+1)=some (i64 x.venue):=ZAR hrow5 rfl;have z2:ZB5 h5 bl (ol+k*4+2) 2=some [i64 x.days.lo,i64 x.days.hi]:=ZPg (ZAR (k:=2) hrow5 rfl) (ZAR (k:=3) hrow5 rfl);refine zy ?_;cases bb
  ·by_cases e1:x.print=s.print
   ·by_cases e2:x.venue=s.venue
    ·by_cases e3:inSp D x.days
     ·refine ZAJ hmix [0,1,3,3,15,31,63,3,131,511,1023,2047,2047,8191,16383,32767,2047,67583,262143,524287,1048575,2097151,2097151,2097151,14680063,31457279,65011711,134217727,268435455,536870911,1073741823] [0,1,2,3,4,5,6,7,8,9,10,11,12,13,14,15,16,17,18,19,20,21,22,23,24,25,26] (some 27) [([28,29],(some 30)),([],none)] (by kernel_rfl) (by kernel_rfl) ?_
      refine z_m ?_;refine z_m ?_;refine g_m ?_;refine g_m ?_;refine g_i ?_;refine g_f ?_;refine g_l ?_;refine g_f ?_;refine g_l ?_
      first|refine ZAV rfl rfl rfl rfl ?_|refine ZAB rfl rfl rfl rfl rfl (fun _=>A_tt e1 (ZAX rfl rfl)) ?_
      refine g_m ?_;refine g_m ?_;refine g_m ?_;refine g_i ?_;refine g_f ?_;refine g_l ?_;refine g_f ?_;refine g_l ?_
      first|refine ZAV rfl rfl rfl rfl ?_|refine ZAB rfl rfl rfl rfl rfl (fun _=>A_tt e2 (ZAX rfl rfl)) ?_
      refine g_p ?_;refine g_m ?_;refine g_r ?_;refine g_m ?_;refine g_m ?_;refine g_i ?_;refine g_f ?_;refine g_r ?_;refine ZAF [0,1,2,3,4,5,6,7,8,9,10,11,12,13,14,15,16,17,18,19,20,21,22,23,24,25,26] (by kernel_rfl) rfl (ZAA rfl) rfl nb rfl (ZAZ rfl rfl rfl rfl rfl Bod.h (ZKR e3 (ZBn (s:=D) (a:=x.days))) (fun h7 hE7=>?_));refine g_p ?_;refine z_p ?_;refine ZAF [0,1,2,3,4,5,6,7,8,9,10,11,12,13,14,15,16,17,18,19,20,21,22,23,24,25,26,27,28,29] (by kernel_rfl) rfl (ZAA rfl) rfl nb rfl (ZAj rfl rfl (ZAO rfl) ?_);refine ZAM (ZAA rfl) nb' ?_;refine zy ?_;refine⟨k+1,(by show L.length-(k+1)<L.length-k;omega),rfl,hE5.trans hE7,hk',rfl,rfl,rfl,rfl,?_,rfl,trivial⟩
      rw[hnx,show lOk s D x=true from decide_eq_true ⟨e1,e2,e3⟩];rfl
     ·refine ZAJ hmix [0,1,3,3,15,31,63,3,131,511,1023,2047,2047,8191,16383,32767,2047,67583,262143,524287,1048575,2097151,2097151,2097151,14680063,31457279,65011711,134217727,268435455,536870911,1073741823] [0,1,2,3,4,5,6,7,8,9,10,11,12,13,14,15,16,17,18,19,20,21,22,23,24,25,26] (some 27) [([28,29],(some 30)),([],none)] (by kernel_rfl) (by kernel_rfl) ?_
      refine z_m ?_;refine z_m ?_;refine g_m ?_;refine g_m ?_;refine g_i ?_;refine g_f ?_;refine g_l ?_;refine g_f ?_;refine g_l ?_
      first|refine ZAV rfl rfl rfl rfl ?_|refine ZAB rfl rfl rfl rfl rfl (fun _=>A_tt e1 (ZAX rfl rfl)) ?_
      refine g_m ?_;refine g_m ?_;refine g_m ?_;refine g_i ?_;refine g_f ?_;refine g_l ?_;refine g_f ?_;refine g_l ?_
      first|refine ZAV rfl rfl rfl rfl ?_|refine ZAB rfl rfl rfl rfl rfl (fun _=>A_tt e2 (ZAX rfl rfl)) ?_
      refine g_p ?_;refine g_m ?_;refine g_r ?_;refine g_m ?_;refine g_m ?_;refine g_i ?_;refine g_f ?_;refine g_r ?_;refine ZAF [0,1,2,3,4,5,6,7,8,9,10,11,12,13,14,15,16,17,18,19,20,21,22,23,24,25,26] (by kernel_rfl) rfl (ZAA rfl) rfl nb rfl (ZAZ rfl rfl rfl rfl rfl Bod.h (ZJl e3 (ZBn (s:=D) (a:=x.days))) (fun h7 hE7=>?_));refine g_p ?_;refine z_p ?_;refine ZAF [0,1,2,3,4,5,6,7,8,9,10,11,12,13,14,15,16,17,18,19,20,21,22,23,24,25,26,27,28,29] (by kernel_rfl) rfl (ZAA rfl) rfl nb rfl (ZAj rfl rfl (ZAO rfl) ?_);refine ZAM (ZAA rfl) nb' ?_;refine zy ?_;refine⟨k+1,(by show L.length-(k+1)<L.length-k;omega),rfl,hE5.trans hE7,hk',rfl,rfl,rfl,rfl,?_,rfl,trivial⟩
      rw[hnx,show lOk s D x=false from decide_eq_false (fun e=>e3 e.2.2)];rfl
    ·refine ZAJ hmix [0,1,3,3,15,31,63,3,131,511,1023,2047,2047,8191,16383,32767,2047,67583,262143,524287,1048575,2097151,2097151,2097151,14680063,31457279,65011711,134217727,268435455,536870911,1073741823] [0,1,2,3,4,5,6,7,8,9,10,11,12,13,14,15,16,17,18,19,20,21,22,23,24,25,26] (some 27) [([28,29],(some 30)),([],none)] (by kernel_rfl) (by kernel_rfl) ?_
     refine z_m ?_;refine z_m ?_;refine g_m ?_;refine g_m ?_;refine g_i ?_;refine g_f ?_;refine g_l ?_;refine g_f ?_;refine g_l ?_
     first|refine ZAV rfl rfl rfl rfl ?_|refine ZAB rfl rfl rfl rfl rfl (fun _=>A_tt e1 (ZAX rfl rfl)) ?_
     refine g_m ?_;refine g_m ?_;refine g_m ?_;refine g_i ?_;refine g_f ?_;refine g_l ?_;refine g_f ?_;refine g_l ?_
     first|refine ZAV rfl rfl rfl rfl ?_|refine ZAB rfl rfl rfl rfl rfl (fun _=>A_ff e2 (ZAX rfl rfl)) ?_
     refine g_p ?_;refine g_m ?_;refine g_r ?_;refine g_m ?_;refine g_m ?_;refine g_i ?_;refine g_f ?_;refine g_r ?_;refine ZAF [0,1,2,3,4,5,6,7,8,9,10,11,12,13,14,15,16,17,18,19,20,21,22,23,24,25,26] (by kernel_rfl) rfl (ZAA rfl) rfl nb rfl (ZBP rfl ?_);refine g_p ?_;refine z_p ?_;refine ZAF [0,1,2,3,4,5,6,7,8,9,10,11,12,13,14,15,16,17,18,19,20,21,22,23,24,25,26,27,28,29] (by kernel_rfl) rfl (ZAA rfl) rfl nb rfl (ZAj rfl rfl (ZAO rfl) ?_);refine ZAM (ZAA rfl) nb' ?_;refine zy ?_;refine⟨k+1,(by show L.length-(k+1)<L.length-k;omega),rfl,hE5,hk',rfl,rfl,rfl,rfl,?_,rfl,trivial⟩;rw[hnx,show lOk s D x=false from decide_eq_false (fun e=>e2 e.2.1)];rfl
   ·refine ZAJ hmix [0,1,3,3,15,31,63,3,131,511,1023,2047,2047,8191,16383,32767,2047,67583,262143,524287,1048575,2097151,2097151,2097151,14680063,31457279,65011711,134217727,268435455,536870911,1073741823] [0,1,2,3,4,5,6,7,8,9,10,11,12,13,14,15,16,17,18,19,20,21,22,23,24,25,26] (some 27) [([28,29],(some 30)),([],none)] (by kernel_rfl) (by kernel_rfl) ?_
    refine z_m ?_;refine z_m ?_;refine g_m ?_;refine g_m ?_;refine g_i ?_;refine g_f ?_;refine g_l ?_;refine g_f ?_;refine g_l ?_
    first|refine ZAV rfl rfl rfl rfl ?_|refine ZAB rfl rfl rfl rfl rfl (fun _=>A_ff e1 (ZAX rfl rfl)) ?_
    refine g_m ?_;refine g_m ?_;refine g_m ?_;refine g_i ?_;refine g_f ?_;refine g_l ?_;refine g_f ?_;refine g_l ?_;refine z_o ?_;refine g_p ?_;refine g_m ?_;refine g_r ?_;refine g_m ?_;refine g_m ?_;refine g_i ?_;refine g_f ?_;refine g_r ?_;refine ZAF [0,1,2,3,4,5,6,7,8,9,10,11,12,13,14,15,16,17,18,19,20,21,22,23,24,25,26] (by kernel_rfl) rfl (ZAA rfl) rfl nb rfl (ZBP rfl ?_);refine g_p ?_;refine z_p ?_;refine ZAF [0,1,2,3,4,5,6,7,8,9,10,11,12,13,14,15,16,17,18,19,20,21,22,23,24,25,26,27,28,29] (by kernel_rfl) rfl (ZAA rfl) rfl nb rfl (ZAj rfl rfl (ZAO rfl) ?_);refine ZAM (ZAA rfl) nb' ?_;refine zy ?_
    refine⟨k+1,(by show L.length-(k+1)<L.length-k;omega),rfl,hE5,hk',rfl,rfl,rfl,rfl,?_,rfl,trivial⟩;rw[hnx,show lOk s D x=false from decide_eq_false (fun e=>e1 e.1)];rfl
  ·refine ZAJ hmix [0,1,3,3,15,31,63,3,131,511,1023,2047,2047,8191,16383,32767,2047,67583,262143,524287,1048575,2097151,2097151,2097151,14680063,31457279,65011711,134217727,268435455,536870911,1073741823] [0,1,2,3,4,5,6,7,8,9,10,11,12,13,14,15,16,17,18,19,20,21,22,23,24,25,26] (some 27) [([28,29],(some 30)),([],none)] (by kernel_rfl) (by kernel_rfl) ?_
   refine z_m ?_;refine z_m ?_;refine g_m ?_;refine g_m ?_;refine g_i ?_;refine g_f ?_;refine g_l ?_;refine g_f ?_;refine g_l ?_;refine z_o ?_;refine g_m ?_;refine g_m ?_;refine g_m ?_;refine g_i ?_;refine g_f ?_;refine g_l ?_;refine g_f ?_;refine g_l ?_;refine z_o ?_;refine g_p ?_;refine g_m ?_;refine g_r ?_;refine g_m ?_;refine g_m ?_;refine g_i ?_;refine g_f ?_;refine g_r ?_;refine ZAF [0,1,2,3,4,5,6,7,8,9,10,11,12,13,14,15,16,17,18,19,20,21,22,23,24,25,26] (by kernel_rfl) rfl (ZAA rfl) rfl nb rfl (ZBP rfl ?_);refine g_p ?_;refine z_p ?_;refine ZAF [0,1,2,3,4,5,6,7,8,9,10,11,12,13,14,15,16,17,18,19,20,21,22,23,24,25,26,27,28,29] (by kernel_rfl) rfl (ZAA rfl) rfl nb rfl (ZAj rfl rfl (ZAO rfl) ?_)
   refine ZAM (ZAA rfl) nb' ?_;refine zy ?_;refine⟨k+1,(by show L.length-(k+1)<L.length-k;omega),rfl,hE5,hk',rfl,rfl,rfl,rfl,?_,rfl,trivial⟩;rw[hnx,Bool.true_or];rfl
 have hk2:k=L.length:=by omega
 subst hk2;rw[List.take_length] at hb;cases bb
 ·refine zy ?_
  exact ZAC (ZAD rfl ⟨by rw[if_pos hb];rfl,hEE.trans hE5⟩)
 rw[if_neg (by rw[hb];simp)];refine zy ?_;obtain⟨bv,ov,oav,rfl,hrv⟩:=ZFv (ZAN.ext (R:=ScVR) (fun x _=>x) m3 (hEE.trans hE5)) (s:=s) v1 v2;obtain⟨bp,op,oap,rfl,ap,cp,hrp,hI⟩:=ZKJ (ZAN.ext (R:=ScPR) (fun x y=>ScPR.ext x y) m5 (hEE.trans hE5)) (s:=s) hprint.1 hprint.2.1;generalize hVe:ZAr t s=Ve at *;generalize hPr:prAt t s=Pr at *;have hEa:=Ext.add hw5 (.cells [str [],i64 0,i64 0,i64 0,i64 0,i64 0,i64 0,i64 0,.bool false] 54 false);have hEb:=hEa.trans (Ext.add (hw5.add _) (.cells [str [],str [],str [],.slice none 0 0,i64 0,i64 0,i64 0] 56 false));have ga:((h5.add (.cells [str [],i64 0,i64 0,i64 0,i64 0,i64 0,i64 0,i64 0,.bool false] 54 false)).add (.cells [str [],str [],str [],.slice none 0 0,i64 0,i64 0,i64 0] 56 false)).get h5.nx=some (.cells [str [],i64 0,i64 0,i64 0,i64 0,i64 0,i64 0,i64 0,.bool false] 54 false):=(Ext.add (hw5.add _) _).get Heap.get_add_same
 have gb:((h5.add (.cells [str [],i64 0,i64 0,i64 0,i64 0,i64 0,i64 0,i64 0,.bool false] 54 false)).add (.cells [str [],str [],str [],.slice none 0 0,i64 0,i64 0,i64 0] 56 false)).get (h5.nx+1)=some (.cells [str [],str [],str [],.slice none 0 0,i64 0,i64 0,i64 0] 56 false):=Heap.get_add_same;refine ZAJ hmix [0,1,0,4,15,31,0,64,0,256,960,1984,0,0,12351,32767] [0,1,2,3,4,5,6,7,8,9,10,11,12,13] (some 14) [([],(some 15)),([],none)] (by kernel_rfl) (by kernel_rfl) ?_;refine z_f ?_;refine z_l ?_;refine z_f ?_;refine z_l ?_;refine ZAB rfl rfl rfl rfl rfl (fun _=>ZAK (k:=s.venue.toNat) Und.h Tsz.h rfl rfl (by omega) (by omega)) ?_;refine z_r ?_;refine z_f ?_;refine z_l ?_;refine z_f ?_;refine z_l ?_;refine ZAB rfl rfl rfl rfl rfl (fun _=>ZAK (k:=s.print.toNat) Und.h Tsz.h rfl rfl (by omega) (by omega)) ?_;refine z_r ?_
 refine ZCb (nk:=.ptr) rfl rfl rfl rfl rfl (fun _ _ _=>ZEl Zr.h) ?_;refine ZCb (nk:=.ptr) rfl rfl rfl rfl rfl (fun _ _ _=>ZEl Zr.h) ?_;refine ZAF (h1:=(Heap.add (Heap.add h5 _) _)) [0,1,2,3,4,5,12,13] (by kernel_rfl) rfl (ZAA rfl) rfl rfl rfl (ZBS (ZBD rfl rfl Tsz.h rfl rfl ga rfl rfl rfl (fun h7 hU7 hW7=>?_)));have hE7:=hU7.ext hEb hw5 (Nat.le_refl _);have gb7:=hU7.get (show h5.nx+1≠h5.nx by omega) gb;have k17:=hE7.get k1;have k27:=hE7.get k2;have hrp7:=hE7.row hrp;refine ZAF (h1:=h7) [0,1,2,3,4,5,6,7,8,9,10,11,12,13,14] (by kernel_rfl) rfl (by refine t_r 11 ?_;refine ZAY (i:=10) rfl rfl rfl rfl rfl (fun _=>ZAK (k:=s.print.toNat) Und.h Tsz.h rfl rfl (by omega) (by omega)) rfl ?_;refine t_l 9 ?_;refine t_f 8 ?_;refine t_l 7 ?_;refine t_f 6 ?_;exact ZAA rfl) rfl rfl rfl (ZBS (ZBD rfl rfl Tsz.h rfl rfl gb7 rfl rfl rfl (fun h8 hU8 hW8=>?_)))
 have hE8:=hU8.ext hE7 hw5 (Nat.le_succ _);refine ZAM (h1:=h8) (ZAA rfl) rfl ?_;have gV:=hU8.get (show h5.nx≠h5.nx+1 by omega) hU7.at';have gP:=hU8.at';have k18:=hE8.get k1;have k28:=hE8.get k2;have hI8:=hI.ext hE8;have hEF:=hEE.trans (hE5.trans hE8);clear k1 k2 k3 k17 k27 hrp7 gb7 ga gb hEb hEa hU7 hU8 hE7 hW7;generalize h5.nx=bV at *;refine zy ?_;refine ZAE rfl rfl rfl rfl (ZAX rfl rfl) (fun e4=>?_) (fun e4=>?_)
 ·refine zy ?_
  exact ZAC (ZAD rfl ⟨by rw[if_pos (.inl e4)];rfl,hEF⟩)
 refine zy ?_;refine ZAP rfl rfl rfl rfl rfl Bod.h rfl rfl (ZBb _ _ _ _) (fun e5=>?_) (fun e5=>?_);rotate_left
 ·refine zy ?_
  exact ZAC (ZAD rfl ⟨by rw[if_pos (.inr (.inl (of_decide_eq_false e5)))];rfl,hEF⟩)
 refine zy ?_;refine ZAP rfl rfl rfl rfl rfl Bod.h rfl rfl (ZBb _ _ _ _) (fun e6=>?_) (fun e6=>?_);rotate_left
 ·refine zy ?_
  exact ZAC (ZAD rfl ⟨by rw[if_pos (.inr (.inr (of_decide_eq_false e6)))];rfl,hEF⟩)
 rw[if_neg (fun x=>x.elim e4 fun x=>x.elim (fun y=>y (of_decide_eq_true e5)) (fun y=>y (of_decide_eq_true e6)))];refine zy ?_;refine ZAT (fun (k:Nat) m ds h'=>ds=[]/\h8=h'/\k<=Pr.reels.length/\(∀j (hj:j<Pr.reels.length),j<k->¬Ve.spool<Pr.reels[j])/\AllK m [(11,.pointer (some ⟨bV,0,none⟩)),(12,.pointer (some ⟨bV+1,0,none⟩)),(13,i64 k)]) (fun k=>Pr.reels.length-k) 0 ?_ ?_
 ·exact⟨rfl,rfl,Nat.zero_le _,(fun _ _ hj=>absurd hj (Nat.not_lt_zero _)),rfl,rfl,rfl,trivial⟩
 rintro k m ds h' ⟨rfl,rfl,hk,hno,hall⟩;refine Wc.le ?_ (Le.kn hall);refine zy ?_;refine ZAE rfl rfl rfl rfl (ZAW rfl rfl) (fun h9=>?_) (fun h9=>?_)
 ·have hk':k<Pr.reels.length:=by simpa using h9
  obtain⟨b9,o9,oa9,rfl,hc9⟩:=hI8 k hk';have hyes:Ve.spool<Pr.reels[k]->(Pr.reels.any fun n=>decide (Ve.spool<n))=true:=fun e=>List.any_eq_true.2 ⟨_,List.getElem_mem hk',decide_eq_true e⟩
  have hnext:¬Ve.spool<Pr.reels[k]->∀j (hj:j<Pr.reels.length),j<k+1->¬Ve.spool<Pr.reels[j]:=fun e j hj hlt=>by
   rcases Nat.lt_or_ge j k with g|g
   ·exact hno j hj g
   ·have:j=k:=by omega
    subst this;exact e
  generalize hmk:Pr.reels[k]=x at *;refine zy ?_
  by_cases e7:Ve.spool<x
  ·refine ZAJ hmix [0,1,0,7,15,0,32,127] [0,1,2,3,4,5,6,7] none [] (by kernel_rfl) (by kernel_rfl) ?_
   refine z_f ?_;refine z_l ?_;refine z_m ?_;refine z_i ?_;refine z_l ?_;refine z_f ?_;refine z_l ?_;refine ZAB rfl rfl rfl rfl rfl (fun _=>A_tt e7 (ZB0 rfl rfl)) ?_;refine ZAM (ZAA rfl) nb' ?_;refine zy ?_;exact ZAC (ZAD rfl ⟨by rw[if_pos (hyes e7)];rfl,hEF⟩)
  ·refine ZAJ hmix [0,1,0,7,15,0,32,127] [0,1,2,3,4,5,6,7] none [] (by kernel_rfl) (by kernel_rfl) ?_
   refine z_f ?_;refine z_l ?_;refine z_m ?_;refine z_i ?_;refine z_l ?_;refine z_f ?_;refine z_l ?_;refine ZAB rfl rfl rfl rfl rfl (fun _=>A_ff e7 (ZB0 rfl rfl)) ?_;refine ZAM (ZAA rfl) nb' ?_;refine zy ?_;exact⟨k+1,(by show Pr.reels.length-(k+1)<Pr.reels.length-k;omega),rfl,rfl,hk',hnext e7,rfl,rfl,rfl,trivial⟩
 have hk2:k=Pr.reels.length:=by omega
 subst hk2;refine zy ?_;refine ZAC (ZAD rfl ⟨?_,hEF⟩);rw[if_neg (fun e=>?_)]
 ·rfl
 ·obtain⟨n,hn,e⟩:=List.any_eq_true.1 e
  obtain⟨j,hj,rfl⟩:=List.getElem_of_mem hn;exact hno j hj hj (of_decide_eq_true e)
set_option maxHeartbeats 4000000 in
theorem ZJy {tc sr:List Value}{t:ScT}{s:ScS}{h:Heap}(ht:ZBX h tc t)(hO:ScOk t)(hs0:ZAQ t s=0)(hr:ScSR h sr s):Sv Tryz.prog 90 [.agg ⟨tc⟩,.agg ⟨sr⟩] h (RetP fun v h'=>v=i64 (whyS t s)/\Ext h h'):=by
 have ht0:=ht;obtain⟨al,cl,at',ct,a1,c1',a2,c2',a3,c3',a4,c4',a5,c5',a6,c6',rfl,m1,m2,m3,m4,m5,m6,m7,m8⟩:=ht;obtain rfl:=hr;have q0:=hO.first;have q1:=hO.prints1;have q2:=hO.packs1;have q3:=hO.rights1;have q4:=hO.venues1;have q5:=hO.keys1;obtain⟨⟨v1,v2⟩,hpp,⟨mi1,mi2⟩,⟨sp1,sp2⟩,-⟩:=ZAo hs0;have hlr:=ZEN hO hs0;have hr0:=ZJI t s;have hk0:=ZOF t s;have hDays:ZDN t s=⟨t.first+s.minute / 1440,t.first+(s.minute+ZCw t s-1) / 1440⟩:=rfl;have hEnd:endS t s=s.minute+ZCw t s:=rfl;have hwork:ZEs t s=if 0<=s.print then (prAt t s).work else (pkAt t s).work:=rfl
 have hvers:ZEq t s=if 0<=s.print then (prAt t s).version else (pkAt t s).version:=rfl
 have hwhy:whyS t s=if ZEc t s=false then 211 else if 0<=s.print then ZG5 t s else if (ZAr t s).digital=false then 213 else if keyB t s=false then 214 else if s.speed≠(pkAt t s).speed then 215 else 0:=rfl
 rw[hr0,hk0,hDays,hEnd] at hwhy;rw[hwhy];clear hwhy hr0 hk0 hDays hEnd;have hfilm:=fun {h':Heap} (hE:Ext h h') (hp:0<=s.print)=>ZMl (D:=⟨t.first+s.minute / 1440,t.first+(s.minute+ZCw t s-1) / 1440⟩) (ht0.ext hE) hO hs0 hp (rfl:ScSR h' _ s) rfl;have hlong:=fun {h':Heap} (hE:Ext h h')=>ZHw (ht0.ext hE) hO hs0 (rfl:ScSR h' _ s);generalize ZEs t s=W at *;generalize ZEq t s=V at *;refine ZAy fun hw=>?_;refine ZAH Tryz.func90 rfl (by rw[Tryz.ntmps90];rfl) ?_;show Wc Tryz.prog ⟨90,174,none⟩ _ _ _ _ _;refine zy ?_;refine ZAa rfl rfl rfl fun h1 hE1 hW1 hg1 hn1=>?_;refine ZAa rfl rfl rfl fun h2 hE2 hW2 hg2 hn2=>?_
 replace hg1:=hE2.get hg1;have hE:=hE1.trans hE2;generalize h.nx=b1 at *;generalize h1.nx=b2 at *;clear hE1 hE2 hW1 hn1 hn2;refine zy ?_;refine ZAJ hmix [0,1,0,0,12,31,63] [0,1,2,3] (some 4) [([5],(some 6)),([],none)] (by kernel_rfl) (by kernel_rfl) ?_;refine z_f ?_;refine z_l ?_;refine z_r ?_;refine z_r ?_;refine ZAF [2,3] (by kernel_rfl) rfl (ZAA rfl) rfl nb rfl (ZAZ rfl rfl rfl rfl rfl Bod.h (hlong hE) (fun h3 hE3=>?_));have k13:=hE3.get hg1;have k23:=hE3.get hg2;refine z_y ?_;refine ZAF [0,1,2,3,4,5] (by kernel_rfl) rfl (by refine t_l 1 ?_;refine t_f 0 ?_;exact ZAA rfl) rfl nb rfl (ZAj rfl rfl (ZAO rfl) ?_)
 refine ZAM (ZAA rfl) nb' ?_;replace hg1:=hE3.get hg1;replace hg2:=hE3.get hg2;replace hE:=hE.trans hE3;clear hlong hE3 hW2;generalize ZCw t s=N at *;have r1:0<=s.minute / 1440/\s.minute / 1440<=57600:=by omega
 have r2:0<=(s.minute+N-1) / 1440/\(s.minute+N-1) / 1440<=157600:=by omega
 refine zy ?_;refine ZAI rfl rfl rfl rfl (ZHh rfl rfl (by omega) (ZC3 (by omega)) (by omega) (by omega)) ?_;refine zy ?_;refine ZAI rfl rfl rfl rfl (ZHh rfl rfl (by omega) (ZC3 (by omega)) (by omega) (by omega)) ?_;refine zy ?_;refine ZAh rfl rfl Zr.h Tsz.h rfl (fun _=>rfl) rfl rfl rfl fun h4 hE4 hW4 hg4 hn4=>?_;replace hg1:=hE4.get hg1;replace hg2:=hE4.get hg2;replace hE:=hE.trans hE4;clear hE4 hn4;generalize h3.nx=bD at *;obtain⟨bv,ov,oav,rfl,hrv⟩:=ZFv (ZAN.ext (R:=ScVR) (fun x _=>x) m3 hE) (s:=s) v1 v2;refine zy ?_;refine ZAI rfl rfl rfl rfl (ZAK (k:=s.venue.toNat) Und.h Tsz.h rfl rfl (by omega) (by omega)) ?_
 refine zy ?_;refine ZAh rfl rfl Zr.h Tsz.h rfl (fun _=>rfl) rfl rfl rfl fun h5 hE5 hW5 hg5 hn5=>?_;replace hg1:=hE5.get hg1;replace hg2:=hE5.get hg2;replace hg4:=hE5.get hg4;replace hE:=hE.trans hE5;clear hE5 hW4 hn5 hrv;generalize h4.nx=bV at *;generalize hVe:ZAr t s=Ve at *;refine zy ?_
 by_cases hp:0<=s.print
 ·rw[if_pos hp] at hwork hvers
  obtain⟨bp,op,oap,rfl,ap,cp,hrp,hI⟩:=ZKJ (ZAN.ext (R:=ScPR) (fun x y=>ScPR.ext x y) m5 hE) (s:=s) hp (by omega);have z1:ZAc h5 bp (op+s.print.toNat*7+1)=some (str (prAt t s).work):=ZAR hrp rfl;have z2:ZAc h5 bp (op+s.print.toNat*7+2)=some (str (prAt t s).version):=ZAR hrp rfl;rw[<-hwork] at z1;rw[<-hvers] at z2;refine ZAI rfl rfl rfl rfl (A_tt hp (ZDX rfl rfl)) ?_;refine zy ?_;refine ZAJ hmix [0,1,0,4,15,31,63,0,128,0,512,1920,3968,8064,127,32767] [0,1,2,3,4,5,6,7,8,9,10,11,12,13] (some 14) [([],(some 15)),([],none)] (by kernel_rfl) (by kernel_rfl) ?_;refine z_f ?_;refine z_l ?_;refine z_f ?_;refine z_l ?_;refine ZAB rfl rfl rfl rfl rfl (fun _=>ZAK (k:=s.print.toNat) Und.h Tsz.h rfl rfl (by omega) (by omega)) ?_;refine z_f ?_;refine z_l ?_;refine z_f ?_;refine z_l ?_;refine z_f ?_;refine z_l ?_;refine ZAB rfl rfl rfl rfl rfl (fun _=>ZAK (k:=s.print.toNat) Und.h Tsz.h rfl rfl (by omega) (by omega)) ?_;refine z_f ?_;refine z_l ?_
  refine ZAF [0,1,2,3,4,5,6] (by kernel_rfl) rfl (ZAA rfl) rfl nb rfl (ZAj rfl rfl (ZAO rfl) ?_);refine ZAF [0,1,2,3,4,5,6,7,8,9,10,11,12,13,14] (by kernel_rfl) rfl (by refine t_l 13 ?_;refine t_f 12 ?_;refine ZAY (i:=11) rfl rfl rfl rfl rfl (fun _=>ZAK (k:=s.print.toNat) Und.h Tsz.h rfl rfl (by omega) (by omega)) rfl ?_;refine t_l 10 ?_;refine t_f 9 ?_;refine t_l 8 ?_;refine t_f 7 ?_;exact ZAA rfl) rfl nb rfl (ZAj rfl rfl (ZAO rfl) ?_);refine ZAM (ZAA rfl) nb' ?_;clear z1 z2 hrp hI;refine zy ?_;clear hwork hvers;refine ZAT (fun (k:Nat) m ds h'=>ds=[]/\Ext h5 h'/\k<=t.rights.length/\AllK m [(2,.pointer (some ⟨b1,0,none⟩)),(3,.pointer (some ⟨b2,0,none⟩)),(5,i64 (s.minute+N)),(6,.pointer (some ⟨bD,0,none⟩)),(7,.pointer (some ⟨bV,0,none⟩)),(8,str W),(9,str V),(10,.bool ((t.rights.take k).any (rOk W V Ve.land ⟨t.first+s.minute / 1440,t.first+(s.minute+N-1) / 1440⟩))),(11,i64 k)]) (fun k=>t.rights.length-k) 0 ?_ ?_
  ·exact⟨rfl,Ext.refl _,Nat.zero_le _,rfl,rfl,rfl,rfl,rfl,rfl,rfl,rfl,rfl,trivial⟩
  rintro k m ds h6 ⟨rfl,hE6,hk,hall⟩;refine ZDG fun hw6=>?_;generalize hb:(t.rights.take k).any (rOk W V Ve.land ⟨t.first+s.minute / 1440,t.first+(s.minute+N-1) / 1440⟩)=bb at *;refine Wc.le ?_ (Le.kn hall);replace hg1:=hE6.get hg1;replace hg2:=hE6.get hg2;replace hg4:=hE6.get hg4;replace hg5:=hE6.get hg5;refine zy ?_;refine ZAE rfl rfl rfl rfl (ZAW rfl rfl) (fun h7=>?_) (fun h7=>?_)
  ·have hk':k<t.rights.length:=by simpa using h7
   obtain⟨bl,ol,oal,rfl,row,hrow,hma⟩:=m4 k hk';have hrow6:=(hE.trans hE6).row hrow;have hnx:=ZGW (f:=rOk W V Ve.land ⟨t.first+s.minute / 1440,t.first+(s.minute+N-1) / 1440⟩) hk';rw[hb] at hnx;generalize hmk:t.rights[k]=x at *;obtain rfl:=hma;refine zy ?_;refine ZAI rfl rfl rfl rfl (A_ix Und.h Tsz.h rfl rfl) ?_;refine zy ?_;refine ZAh rfl rfl Zr.h Tsz.h rfl (fun _=>rfl) rfl rfl rfl fun h8 hE8 hW8 hg8 hn8=>?_;replace hg1:=hE8.get hg1;replace hg2:=hE8.get hg2;replace hg4:=hE8.get hg4;replace hg5:=hE8.get hg5;have hE68:=hE6.trans hE8;clear hrow6 hn8 hE8;generalize h6.nx=b8 at *;cases bb
   ·refine zy ?_
    by_cases e1:x.work=W
    ·refine ZAI rfl rfl rfl rfl (A_tt e1 (ZAf rfl rfl)) ?_
     refine zy ?_
     by_cases e2:x.version=V
     ·refine ZAI rfl rfl rfl rfl (A_tt e2 (ZAf rfl rfl)) ?_
      refine zy ?_
      by_cases e4:x.land=Ve.land
      ·refine ZAI rfl rfl rfl rfl (A_tt e4 (ZAX rfl rfl)) ?_
       refine zy ?_;refine ZAS rfl rfl rfl rfl rfl Bod.h rfl rfl (ZBn (s:=⟨t.first+s.minute / 1440,t.first+(s.minute+N-1) / 1440⟩) (a:=x.days)) fun h9 hE9=>?_;refine zy ?_;refine⟨k+1,(by show t.rights.length-(k+1)<t.rights.length-k;omega),rfl,hE68.trans hE9,hk',rfl,rfl,rfl,rfl,rfl,rfl,rfl,?_,rfl,trivial⟩;rw[hnx,Bool.false_or,show rOk W V Ve.land ⟨t.first+s.minute / 1440,t.first+(s.minute+N-1) / 1440⟩ x=decide (inSp ⟨t.first+s.minute / 1440,t.first+(s.minute+N-1) / 1440⟩ x.days) from decide_eq_decide.2 ⟨fun e=>e.2.2.2,fun e=>⟨e1,.inr e2,e4,e⟩⟩];rfl
      ·refine ZAI rfl rfl rfl rfl (A_ff e4 (ZAX rfl rfl)) ?_
       refine zy ?_;refine⟨k+1,(by show t.rights.length-(k+1)<t.rights.length-k;omega),rfl,hE68,hk',rfl,rfl,rfl,rfl,rfl,rfl,rfl,?_,rfl,trivial⟩;rw[hnx,Bool.false_or,show rOk W V Ve.land ⟨t.first+s.minute / 1440,t.first+(s.minute+N-1) / 1440⟩ x=false from decide_eq_false (fun e=>e4 e.2.2.1)];rfl
     ·refine ZAI rfl rfl rfl rfl (A_ff e2 (ZAf rfl rfl)) ?_
      refine zy ?_
      by_cases e3:x.version=[]
      ·refine ZAI rfl rfl rfl rfl (A_tt e3 (ZAf rfl rfl)) ?_
       refine zy ?_
       by_cases e4:x.land=Ve.land
       ·refine ZAI rfl rfl rfl rfl (A_tt e4 (ZAX rfl rfl)) ?_
        refine zy ?_;refine ZAS rfl rfl rfl rfl rfl Bod.h rfl rfl (ZBn (s:=⟨t.first+s.minute / 1440,t.first+(s.minute+N-1) / 1440⟩) (a:=x.days)) fun h9 hE9=>?_;refine zy ?_;refine⟨k+1,(by show t.rights.length-(k+1)<t.rights.length-k;omega),rfl,hE68.trans hE9,hk',rfl,rfl,rfl,rfl,rfl,rfl,rfl,?_,rfl,trivial⟩;rw[hnx,Bool.false_or,show rOk W V Ve.land ⟨t.first+s.minute / 1440,t.first+(s.minute+N-1) / 1440⟩ x=decide (inSp ⟨t.first+s.minute / 1440,t.first+(s.minute+N-1) / 1440⟩ x.days) from decide_eq_decide.2 ⟨fun e=>e.2.2.2,fun e=>⟨e1,.inl e3,e4,e⟩⟩];rfl
       ·refine ZAI rfl rfl rfl rfl (A_ff e4 (ZAX rfl rfl)) ?_
        refine zy ?_;refine⟨k+1,(by show t.rights.length-(k+1)<t.rights.length-k;omega),rfl,hE68,hk',rfl,rfl,rfl,rfl,rfl,rfl,rfl,?_,rfl,trivial⟩;rw[hnx,Bool.false_or,show rOk W V Ve.land ⟨t.first+s.minute / 1440,t.first+(s.minute+N-1) / 1440⟩ x=false from decide_eq_false (fun e=>e4 e.2.2.1)];rfl
      ·refine ZAI rfl rfl rfl rfl (A_ff e3 (ZAf rfl rfl)) ?_
       refine zy ?_;refine⟨k+1,(by show t.rights.length-(k+1)<t.rights.length-k;omega),rfl,hE68,hk',rfl,rfl,rfl,rfl,rfl,rfl,rfl,?_,rfl,trivial⟩;rw[hnx,Bool.false_or,show rOk W V Ve.land ⟨t.first+s.minute / 1440,t.first+(s.minute+N-1) / 1440⟩ x=false from decide_eq_false (fun e=>e.2.1.elim e3 e2)];rfl
    ·refine ZAI rfl rfl rfl rfl (A_ff e1 (ZAf rfl rfl)) ?_
     refine zy ?_;refine⟨k+1,(by show t.rights.length-(k+1)<t.rights.length-k;omega),rfl,hE68,hk',rfl,rfl,rfl,rfl,rfl,rfl,rfl,?_,rfl,trivial⟩;rw[hnx,Bool.false_or,show rOk W V Ve.land ⟨t.first+s.minute / 1440,t.first+(s.minute+N-1) / 1440⟩ x=false from decide_eq_false (fun e=>e1 e.1)];rfl
   ·refine zy ?_
    refine⟨k+1,(by show t.rights.length-(k+1)<t.rights.length-k;omega),rfl,hE68,hk',rfl,rfl,rfl,rfl,rfl,rfl,rfl,?_,rfl,trivial⟩;rw[hnx,Bool.true_or];rfl
  have hk2:k=t.rights.length:=by omega
  subst hk2;rw[List.take_length] at hb;replace hE:=hE.trans hE6;cases bb
  ·refine zy ?_
   exact ZAC (ZAD rfl ⟨by rw[if_pos hb];rfl,hE⟩)
  rw[if_neg (by rw[hb];simp)];refine zy ?_;rw[if_pos hp];refine ZAI rfl rfl rfl rfl (A_tt hp (ZDX rfl rfl)) ?_;refine zy ?_;refine ZAS rfl rfl rfl rfl rfl Bod.h rfl rfl (hfilm hE hp) fun h9 hE9=>?_;refine zy ?_;exact ZAC (ZAD rfl ⟨rfl,hE.trans hE9⟩)
 ·rw[if_neg hp] at hwork hvers
  have hpk:0<=s.pack/\s.pack<t.packs.length:=by omega
  obtain⟨bp,op,oap,rfl,hrp⟩:=ZL1 (ZAN.ext (R:=ZEV) (fun x _=>x) m6 hE) (s:=s) hpk.1 hpk.2;have z1:ZAc h5 bp (op+s.pack.toNat*5+1)=some (str (pkAt t s).work):=ZAR hrp rfl;have z2:ZAc h5 bp (op+s.pack.toNat*5+2)=some (str (pkAt t s).version):=ZAR hrp rfl;have z4:ZAc h5 bp (op+s.pack.toNat*5+4)=some (i64 (pkAt t s).speed):=ZAR hrp rfl;rw[<-hwork] at z1;rw[<-hvers] at z2;refine ZAI rfl rfl rfl rfl (A_ff hp (ZDX rfl rfl)) ?_;refine zy ?_;refine ZAJ hmix [0,1,0,4,15,31,63,0,128,0,512,1920,3968,8064,127,32767] [0,1,2,3,4,5,6,7,8,9,10,11,12,13] (some 14) [([],(some 15)),([],none)] (by kernel_rfl) (by kernel_rfl) ?_
  refine z_f ?_;refine z_l ?_;refine z_f ?_;refine z_l ?_;refine ZAB rfl rfl rfl rfl rfl (fun _=>ZAK (k:=s.pack.toNat) Und.h Tsz.h rfl rfl (by omega) (by omega)) ?_;refine z_f ?_;refine z_l ?_;refine z_f ?_;refine z_l ?_;refine z_f ?_;refine z_l ?_;refine ZAB rfl rfl rfl rfl rfl (fun _=>ZAK (k:=s.pack.toNat) Und.h Tsz.h rfl rfl (by omega) (by omega)) ?_;refine z_f ?_;refine z_l ?_;refine ZAF [0,1,2,3,4,5,6] (by kernel_rfl) rfl (ZAA rfl) rfl nb rfl (ZAj rfl rfl (ZAO rfl) ?_);refine ZAF [0,1,2,3,4,5,6,7,8,9,10,11,12,13,14] (by kernel_rfl) rfl (by refine t_l 13 ?_;refine t_f 12 ?_;refine ZAY (i:=11) rfl rfl rfl rfl rfl (fun _=>ZAK (k:=s.pack.toNat) Und.h Tsz.h rfl rfl (by omega) (by omega)) rfl ?_;refine t_l 10 ?_;refine t_f 9 ?_;refine t_l 8 ?_;refine t_f 7 ?_;exact ZAA rfl) rfl nb rfl (ZAj rfl rfl (ZAO rfl) ?_)
  refine ZAM (ZAA rfl) nb' ?_;clear z1 z2 hrp;refine zy ?_;clear hwork hvers;refine ZAT (fun (k:Nat) m ds h'=>ds=[]/\Ext h5 h'/\k<=t.rights.length/\AllK m [(2,.pointer (some ⟨b1,0,none⟩)),(3,.pointer (some ⟨b2,0,none⟩)),(5,i64 (s.minute+N)),(6,.pointer (some ⟨bD,0,none⟩)),(7,.pointer (some ⟨bV,0,none⟩)),(8,str W),(9,str V),(10,.bool ((t.rights.take k).any (rOk W V Ve.land ⟨t.first+s.minute / 1440,t.first+(s.minute+N-1) / 1440⟩))),(11,i64 k)]) (fun k=>t.rights.length-k) 0 ?_ ?_
  ·exact⟨rfl,Ext.refl _,Nat.zero_le _,rfl,rfl,rfl,rfl,rfl,rfl,rfl,rfl,rfl,trivial⟩
  rintro k m ds h6 ⟨rfl,hE6,hk,hall⟩;refine ZDG fun hw6=>?_;generalize hb:(t.rights.take k).any (rOk W V Ve.land ⟨t.first+s.minute / 1440,t.first+(s.minute+N-1) / 1440⟩)=bb at *;refine Wc.le ?_ (Le.kn hall);replace hg1:=hE6.get hg1;replace hg2:=hE6.get hg2;replace hg4:=hE6.get hg4;replace hg5:=hE6.get hg5;refine zy ?_;refine ZAE rfl rfl rfl rfl (ZAW rfl rfl) (fun h7=>?_) (fun h7=>?_)
  ·have hk':k<t.rights.length:=by simpa using h7
   obtain⟨bl,ol,oal,rfl,row,hrow,hma⟩:=m4 k hk';have hrow6:=(hE.trans hE6).row hrow;have hnx:=ZGW (f:=rOk W V Ve.land ⟨t.first+s.minute / 1440,t.first+(s.minute+N-1) / 1440⟩) hk';rw[hb] at hnx;generalize hmk:t.rights[k]=x at *;obtain rfl:=hma;refine zy ?_;refine ZAI rfl rfl rfl rfl (A_ix Und.h Tsz.h rfl rfl) ?_;refine zy ?_;refine ZAh rfl rfl Zr.h Tsz.h rfl (fun _=>rfl) rfl rfl rfl fun h8 hE8 hW8 hg8 hn8=>?_;replace hg1:=hE8.get hg1;replace hg2:=hE8.get hg2;replace hg4:=hE8.get hg4;replace hg5:=hE8.get hg5;have hE68:=hE6.trans hE8;clear hrow6 hn8 hE8;generalize h6.nx=b8 at *;cases bb
   ·refine zy ?_
    by_cases e1:x.work=W
    ·refine ZAI rfl rfl rfl rfl (A_tt e1 (ZAf rfl rfl)) ?_
     refine zy ?_
     by_cases e2:x.version=V
     ·refine ZAI rfl rfl rfl rfl (A_tt e2 (ZAf rfl rfl)) ?_
      refine zy ?_
      by_cases e4:x.land=Ve.land
      ·refine ZAI rfl rfl rfl rfl (A_tt e4 (ZAX rfl rfl)) ?_
       refine zy ?_;refine ZAS rfl rfl rfl rfl rfl Bod.h rfl rfl (ZBn (s:=⟨t.first+s.minute / 1440,t.first+(s.minute+N-1) / 1440⟩) (a:=x.days)) fun h9 hE9=>?_;refine zy ?_;refine⟨k+1,(by show t.rights.length-(k+1)<t.rights.length-k;omega),rfl,hE68.trans hE9,hk',rfl,rfl,rfl,rfl,rfl,rfl,rfl,?_,rfl,trivial⟩;rw[hnx,Bool.false_or,show rOk W V Ve.land ⟨t.first+s.minute / 1440,t.first+(s.minute+N-1) / 1440⟩ x=decide (inSp ⟨t.first+s.minute / 1440,t.first+(s.minute+N-1) / 1440⟩ x.days) from decide_eq_decide.2 ⟨fun e=>e.2.2.2,fun e=>⟨e1,.inr e2,e4,e⟩⟩];rfl
      ·refine ZAI rfl rfl rfl rfl (A_ff e4 (ZAX rfl rfl)) ?_
       refine zy ?_;refine⟨k+1,(by show t.rights.length-(k+1)<t.rights.length-k;omega),rfl,hE68,hk',rfl,rfl,rfl,rfl,rfl,rfl,rfl,?_,rfl,trivial⟩;rw[hnx,Bool.false_or,show rOk W V Ve.land ⟨t.first+s.minute / 1440,t.first+(s.minute+N-1) / 1440⟩ x=false from decide_eq_false (fun e=>e4 e.2.2.1)];rfl
     ·refine ZAI rfl rfl rfl rfl (A_ff e2 (ZAf rfl rfl)) ?_
      refine zy ?_
      by_cases e3:x.version=[]
      ·refine ZAI rfl rfl rfl rfl (A_tt e3 (ZAf rfl rfl)) ?_
       refine zy ?_
       by_cases e4:x.land=Ve.land
       ·refine ZAI rfl rfl rfl rfl (A_tt e4 (ZAX rfl rfl)) ?_
        refine zy ?_;refine ZAS rfl rfl rfl rfl rfl Bod.h rfl rfl (ZBn (s:=⟨t.first+s.minute / 1440,t.first+(s.minute+N-1) / 1440⟩) (a:=x.days)) fun h9 hE9=>?_;refine zy ?_;refine⟨k+1,(by show t.rights.length-(k+1)<t.rights.length-k;omega),rfl,hE68.trans hE9,hk',rfl,rfl,rfl,rfl,rfl,rfl,rfl,?_,rfl,trivial⟩;rw[hnx,Bool.false_or,show rOk W V Ve.land ⟨t.first+s.minute / 1440,t.first+(s.minute+N-1) / 1440⟩ x=decide (inSp ⟨t.first+s.minute / 1440,t.first+(s.minute+N-1) / 1440⟩ x.days) from decide_eq_decide.2 ⟨fun e=>e.2.2.2,fun e=>⟨e1,.inl e3,e4,e⟩⟩];rfl
       ·refine ZAI rfl rfl rfl rfl (A_ff e4 (ZAX rfl rfl)) ?_
        refine zy ?_;refine⟨k+1,(by show t.rights.length-(k+1)<t.rights.length-k;omega),rfl,hE68,hk',rfl,rfl,rfl,rfl,rfl,rfl,rfl,?_,rfl,trivial⟩;rw[hnx,Bool.false_or,show rOk W V Ve.land ⟨t.first+s.minute / 1440,t.first+(s.minute+N-1) / 1440⟩ x=false from decide_eq_false (fun e=>e4 e.2.2.1)];rfl
      ·refine ZAI rfl rfl rfl rfl (A_ff e3 (ZAf rfl rfl)) ?_
       refine zy ?_;refine⟨k+1,(by show t.rights.length-(k+1)<t.rights.length-k;omega),rfl,hE68,hk',rfl,rfl,rfl,rfl,rfl,rfl,rfl,?_,rfl,trivial⟩;rw[hnx,Bool.false_or,show rOk W V Ve.land ⟨t.first+s.minute / 1440,t.first+(s.minute+N-1) / 1440⟩ x=false from decide_eq_false (fun e=>e.2.1.elim e3 e2)];rfl
    ·refine ZAI rfl rfl rfl rfl (A_ff e1 (ZAf rfl rfl)) ?_
     refine zy ?_;refine⟨k+1,(by show t.rights.length-(k+1)<t.rights.length-k;omega),rfl,hE68,hk',rfl,rfl,rfl,rfl,rfl,rfl,rfl,?_,rfl,trivial⟩;rw[hnx,Bool.false_or,show rOk W V Ve.land ⟨t.first+s.minute / 1440,t.first+(s.minute+N-1) / 1440⟩ x=false from decide_eq_false (fun e=>e1 e.1)];rfl
   ·refine zy ?_
    refine⟨k+1,(by show t.rights.length-(k+1)<t.rights.length-k;omega),rfl,hE68,hk',rfl,rfl,rfl,rfl,rfl,rfl,rfl,?_,rfl,trivial⟩;rw[hnx,Bool.true_or];rfl
  have hk2:k=t.rights.length:=by omega
  subst hk2;rw[List.take_length] at hb;replace hE:=hE.trans hE6;cases bb
  ·refine zy ?_
   exact ZAC (ZAD rfl ⟨by rw[if_pos hb];rfl,hE⟩)
  rw[if_neg (by rw[hb];simp)];refine zy ?_;rw[if_neg hp];refine ZAI rfl rfl rfl rfl (A_ff hp (ZDX rfl rfl)) ?_;refine zy ?_;replace z4:=hE6.cell z4;generalize hd:Ve.digital=dg at *;cases dg
  ·refine zy ?_
   exact ZAC (ZAD rfl ⟨by rw[if_pos rfl];rfl,hE⟩)
  rw[if_neg (by decide)];refine zy ?_;clear hb hall hw6;refine ZAT (fun (k:Nat) m ds h'=>ds=[]/\Ext h6 h'/\k<=t.keys.length/\AllK m [(2,.pointer (some ⟨b1,0,none⟩)),(3,.pointer (some ⟨b2,0,none⟩)),(5,i64 (s.minute+N)),(10,.bool ((t.keys.take k).any (kOk s ⟨s.minute,s.minute+N⟩))),(13,i64 k)]) (fun k=>t.keys.length-k) 0 ?_ ?_
  ·exact⟨rfl,Ext.refl _,Nat.zero_le _,rfl,rfl,rfl,rfl,rfl,trivial⟩
  rintro k m ds h7 ⟨rfl,hE7,hk,hall⟩;refine ZDG fun hw7=>?_;generalize hb:(t.keys.take k).any (kOk s ⟨s.minute,s.minute+N⟩)=bb at *;refine Wc.le ?_ (Le.kn hall);replace hg1:=hE7.get hg1;replace hg2:=hE7.get hg2;replace z4:=hE7.cell z4;refine zy ?_;refine ZAE rfl rfl rfl rfl (ZAW rfl rfl) (fun h8=>?_) (fun h8=>?_)
  ·have hk':k<t.keys.length:=by simpa using h8
   obtain⟨bl,ol,oal,rfl,row,hrow,hma⟩:=m7 k hk';have hrow7:=(hE.trans hE7).row hrow;have hnx:=ZGW (f:=kOk s ⟨s.minute,s.minute+N⟩) hk';rw[hb] at hnx;generalize hmk:t.keys[k]=x at *;obtain rfl:=hma;refine zy ?_;refine ZAI rfl rfl rfl rfl (A_ix Und.h Tsz.h rfl rfl) ?_;refine zy ?_;refine ZAh rfl rfl Zr.h Tsz.h rfl (fun _=>rfl) rfl rfl rfl fun h9 hE9 hW9 hg9 hn9=>?_;replace hg1:=hE9.get hg1;replace hg2:=hE9.get hg2;have hE79:=hE7.trans hE9;clear hrow7 hn9 hE9;generalize h7.nx=b9 at *;cases bb
   ·refine zy ?_
    by_cases e1:x.pack=s.pack
    ·refine ZAI rfl rfl rfl rfl (A_tt e1 (ZAX rfl rfl)) ?_
     refine zy ?_
     by_cases e2:x.venue=s.venue
     ·refine ZAI rfl rfl rfl rfl (A_tt e2 (ZAX rfl rfl)) ?_
      refine zy ?_;refine ZAS rfl rfl rfl rfl rfl Bod.h rfl rfl (ZBn (s:=⟨s.minute,s.minute+N⟩) (a:=x.window)) fun h10 hE10=>?_;refine zy ?_;refine⟨k+1,(by show t.keys.length-(k+1)<t.keys.length-k;omega),rfl,hE79.trans hE10,hk',rfl,rfl,rfl,?_,rfl,trivial⟩;rw[hnx,Bool.false_or,show kOk s ⟨s.minute,s.minute+N⟩ x=decide (inSp ⟨s.minute,s.minute+N⟩ x.window) from decide_eq_decide.2 ⟨fun e=>e.2.2,fun e=>⟨e1,e2,e⟩⟩];rfl
     ·refine ZAI rfl rfl rfl rfl (A_ff e2 (ZAX rfl rfl)) ?_
      refine zy ?_;refine⟨k+1,(by show t.keys.length-(k+1)<t.keys.length-k;omega),rfl,hE79,hk',rfl,rfl,rfl,?_,rfl,trivial⟩;rw[hnx,Bool.false_or,show kOk s ⟨s.minute,s.minute+N⟩ x=false from decide_eq_false (fun e=>e2 e.2.1)];rfl
    ·refine ZAI rfl rfl rfl rfl (A_ff e1 (ZAX rfl rfl)) ?_
     refine zy ?_;refine⟨k+1,(by show t.keys.length-(k+1)<t.keys.length-k;omega),rfl,hE79,hk',rfl,rfl,rfl,?_,rfl,trivial⟩;rw[hnx,Bool.false_or,show kOk s ⟨s.minute,s.minute+N⟩ x=false from decide_eq_false (fun e=>e1 e.1)];rfl
   ·refine zy ?_
    refine⟨k+1,(by show t.keys.length-(k+1)<t.keys.length-k;omega),rfl,hE79,hk',rfl,rfl,rfl,?_,rfl,trivial⟩;rw[hnx,Bool.true_or];rfl
  have hk2:k=t.keys.length:=by omega
  subst hk2;rw[List.take_length] at hb;replace hE:=hE.trans hE7;cases bb
  ·refine zy ?_
   exact ZAC (ZAD rfl ⟨by rw[if_pos hb];rfl,hE⟩)
  rw[if_neg (by rw[hb];simp)];refine zy ?_
  by_cases e9:s.speed=(pkAt t s).speed
  ·rw[if_neg (fun e=>e e9)]
   refine ZAJ hmix [0,1,0,4,0,16,60,124,252,511] [0,1,2,3,4,5,6,7,8,9] none [] (by kernel_rfl) (by kernel_rfl) ?_;refine z_f ?_;refine z_l ?_;refine z_f ?_;refine z_l ?_;refine z_f ?_;refine z_l ?_;refine ZAB rfl rfl rfl rfl rfl (fun _=>ZAK (k:=s.pack.toNat) Und.h Tsz.h rfl rfl (by omega) (by omega)) ?_;refine z_f ?_;refine z_l ?_;refine ZAB rfl rfl rfl rfl rfl (fun _=>A_ff (fun e=>e e9) (ZAb rfl rfl)) ?_;refine ZAM (ZAA rfl) nb' ?_;refine zy ?_;exact ZAC (ZAD rfl ⟨rfl,hE⟩)
  ·rw[if_pos e9]
   refine ZAJ hmix [0,1,0,4,0,16,60,124,252,511] [0,1,2,3,4,5,6,7,8,9] none [] (by kernel_rfl) (by kernel_rfl) ?_;refine z_f ?_;refine z_l ?_;refine z_f ?_;refine z_l ?_;refine z_f ?_;refine z_l ?_;refine ZAB rfl rfl rfl rfl rfl (fun _=>ZAK (k:=s.pack.toNat) Und.h Tsz.h rfl rfl (by omega) (by omega)) ?_;refine z_f ?_;refine z_l ?_;refine ZAB rfl rfl rfl rfl rfl (fun _=>A_tt e9 (ZAb rfl rfl)) ?_;refine ZAM (ZAA rfl) nb' ?_;refine zy ?_;exact ZAC (ZAD rfl ⟨rfl,hE⟩)
def longV (t:ScT)(s:ScS):Int×Int:=if ZCU t=0 then if ZAQ t s=0 then (ZCw t s,0) else (0,ZAQ t s) else (0,ZCU t)
def mayV (t:ScT)(s:ScS):Int×Int:=if ZCU t=0 then if ZAQ t s=0 then (whyS t s,0) else (0,ZAQ t s) else (0,ZCU t)
abbrev ptrB (b:Nat):Value:=.pointer (some ⟨b,0,none⟩)
def ptrZ (z:Nat×ScS):Value:=.pointer (some ⟨z.1,0,none⟩)
def ZCg (h:Heap)(bH:Nat)(t:ScT)(zs:List (Nat×ScS)):Prop:=∀z∈zs,ZBU h z.1 bH t z.2
theorem ZCg.ext {h h':Heap}{bH:Nat}{t:ScT}{zs:List (Nat×ScS)}(a:ZCg h bH t zs)(he:Ext h h'):ZCg h' bH t zs:=fun z hz=>he.get (a z hz)
def shI (bH:Nat)(t:ScT)(zs:List (Nat×ScS)):It where
 S:=fun c=>c∈zs.map Prod.fst
 p:=fun h=>ZCg h bH t zs
 loc:=fun hk hp z hz=>hk _ _ (List.mem_map_of_mem hz) (hp z hz)
 ex:=fun hp hc=>by obtain⟨z,hz,rfl⟩:=List.mem_map.1 hc;exact⟨_,hp z hz⟩
def shVs (s:ScS):List Value:=[i64 s.venue,i64 s.print,i64 s.pack,i64 s.minute,i64 s.speed,i64 s.worth]
theorem ZMn (l:List ScS):(l.flatMap shVs).length=l.length*6:=by
 induction l with
 | nil=>rfl
 | cons x l ih=>rw[List.flatMap_cons,List.length_append,ih,List.length_cons];show 6+_=_;omega
theorem ZH6:∀l:List ScS,allOne (l.flatMap shVs)=true
 | []=>rfl
 | s::l=>by
  rw[List.flatMap_cons]
  show allOne (i64 s.venue::i64 s.print::i64 s.pack::i64 s.minute::i64 s.speed::i64 s.worth::l.flatMap shVs)=true
  have:=ZH6 l;simp only[allOne,List.all_cons] at this ⊢;rw[this];rfl
theorem ZOo {h0 h:Heap}{v:Value}{P:List ScS}(hF:ZAG h0 h v 42 6 (P.flatMap shVs) P.length):∃a c,v=.slice a P.length c/\ZAN 6 ScSR h a P:=by
 rcases hF with ⟨rfl,_,h0⟩|⟨b,sp,op,rfl,hg,_⟩
 ·rw[h0]
  exact⟨none,0,rfl,fun i hi=>absurd hi (by omega)⟩
 ·refine⟨some ⟨b,0,sp⟩,P.length,rfl,fun i hi=>⟨b,0,sp,rfl,_,ZAd hg ?_,rfl⟩⟩
  rw[Nat.zero_add];exact ZFD (f:=shVs) (k:=6) hi fun _ _=>rfl
theorem ZEQ {t:ScT}(hO:ScOk t){s:ScS}(hs0:ZAQ t s=0):1<=ZA0 t s/\ZA0 t s<=200000/\endS t s<=ZA0 t s/\s.minute<endS t s/\0<=s.minute:=by
 have hlr:=ZEN hO hs0;obtain⟨-,-,⟨mi1,mi2⟩,-⟩:=ZAo hs0;obtain⟨-,-,-,⟨tu1,tu2⟩,-⟩:=ZDb (ZG0 hO hs0);unfold ZA0 endS;omega
theorem ZG7 {b bH:Nat}{t:ScT}{s:ScS}{h:Heap}(hS:ZBU h b bH t s)(hO:ScOk t)(hs0:ZAQ t s=0):Sv Tryz.prog 117 [.pointer (some ⟨b,0,none⟩)] h (RetP fun v h'=>v=i64 (ZA0 t s)/\h'=h):=by
 have hlr:=ZEN hO hs0;obtain⟨-,-,⟨mi1,mi2⟩,-⟩:=ZAo hs0;obtain⟨-,-,-,⟨tu1,tu2⟩,-⟩:=ZDb (ZG0 hO hs0);have hov:ZA0 t s=endS t s+(ZAr t s).turn:=rfl;have hEnd:endS t s=s.minute+ZCw t s:=rfl;unfold ZBU ZGr at hS;rw[hov];generalize endS t s=E at *;generalize (ZAr t s).turn=T at *;refine ZAH Tryz.func117 rfl (by rw[Tryz.ntmps117];rfl) ?_;show Wc Tryz.prog ⟨117,13,none⟩ _ _ _ _ _;refine zy ?_;refine ZAJ hmix [0,1,3,7,0,16,48,112,240,511,1023] [0,1,2,3,4,5,6,7,8,9] (some 10) [([],none)] (by kernel_rfl) (by kernel_rfl) ?_;refine z_m ?_;refine z_q ?_;refine z_f ?_;refine z_l ?_;refine z_m ?_;refine z_q ?_;refine z_f ?_;refine z_f ?_;refine z_l ?_;refine z_y ?_
 refine ZAF [0,1,2,3,4,5,6,7,8,9] (by kernel_rfl) rfl (ZAA rfl) rfl nb rfl (ZAj rfl rfl (ZAO rfl) ?_);refine ZAM (ZAA rfl) nb' ?_;refine zy ?_;exact ZAC (ZAD rfl ⟨rfl,rfl⟩)
set_option maxHeartbeats 1000000 in
theorem ZLa {bx bz bH:Nat}{t:ScT}{x y:ScS}{h:Heap}(hX:ZBU h bx bH t x)(hY:ZBU h bz bH t y)(hO:ScOk t)(hx0:ZAQ t x=0)(hy0:ZAQ t y=0):Sv Tryz.prog 105 [.pointer (some ⟨bx,0,none⟩),.pointer (some ⟨bz,0,none⟩)] h (RetP fun v h'=>v=.bool (ZDD t x y)/\h'=h):=by
 have hoX:=ZG7 hX hO hx0;have hoY:=ZG7 hY hO hy0;unfold ZDD;unfold ZBU ZGr at hX hY;generalize ZA0 t x=ox at *;generalize ZA0 t y=oy at *;refine ZAH Tryz.func105 rfl (by rw[Tryz.ntmps105];rfl) ?_;show Wc Tryz.prog ⟨105,36,none⟩ _ _ _ _ _;refine zy ?_
 by_cases e1:x.venue=y.venue
 rotate_left
 ·refine ZAJ hmix [0,1,3,7,15,0,32,96,224,480,1023,2047,4095,8191,16383,32767,65535,4095,135167,524287,1048575,2097151,4194303,8388607,16777215,33554431,67108863,4194303,138412031,536870911,1073741823,2147483647] [0,1,2,3,4,5,6,7,8,9,10,11,12,13,14,15,16,17] (some 18) [([19,20,21,22,23,24,25,26,27],(some 28)),([29,30],(some 31)),([],none)] (by kernel_rfl) (by kernel_rfl) ?_
  refine z_m ?_;refine z_q ?_;refine z_f ?_;refine z_f ?_;refine z_l ?_;refine z_m ?_;refine z_q ?_;refine z_f ?_;refine z_f ?_;refine z_l ?_;refine ZAB rfl rfl rfl rfl rfl (fun _=>A_ff e1 (ZAX rfl rfl)) ?_;refine z_m ?_;refine g_m ?_;refine g_q ?_;refine g_f ?_;refine g_f ?_;refine g_l ?_;refine g_m ?_;refine ZAF [0,1,2,3,4,5,6,7,8,9,10,11,17] (by kernel_rfl) rfl (ZAA rfl) rfl nb rfl (ZBP rfl ?_);refine z_o ?_;refine z_p ?_;refine z_m ?_;refine g_m ?_;refine g_q ?_;refine g_f ?_;refine g_f ?_;refine g_l ?_;refine g_m ?_;refine ZAF [0,1,2,3,4,5,6,7,8,9,10,11,12,13,14,15,16,17,18,19,20,21,27] (by kernel_rfl) rfl (by refine o_l 16 ?_;refine o_f 15 ?_;refine o_f 14 ?_;refine o_q 13 ?_;refine o_m 12 ?_;exact ZAA rfl) rfl nb rfl (ZBP rfl ?_)
  refine z_o ?_;refine z_p ?_;refine ZAF [0,1,2,3,4,5,6,7,8,9,10,11,12,13,14,15,16,17,18,19,20,21,22,23,24,25,26,27,28,29,30] (by kernel_rfl) rfl (by refine o_l 26 ?_;refine o_f 25 ?_;refine o_f 24 ?_;refine o_q 23 ?_;refine o_m 22 ?_;exact ZAA rfl) rfl nb rfl (ZAj rfl rfl (ZAO rfl) ?_);refine ZAM (ZAA rfl) nb' ?_;refine zy ?_;exact ZAC (ZAD rfl ⟨by rw[decide_eq_false (fun e=>e1 e.1)];rfl,rfl⟩)
 by_cases e2:x.minute<oy
 rotate_left
 ·refine ZAJ hmix [0,1,3,7,15,0,32,96,224,480,1023,2047,4095,8191,16383,32767,65535,4095,135167,524287,1048575,2097151,4194303,8388607,16777215,33554431,67108863,4194303,138412031,536870911,1073741823,2147483647] [0,1,2,3,4,5,6,7,8,9,10,11,12,13,14,15,16,17] (some 18) [([19,20,21,22,23,24,25,26,27],(some 28)),([29,30],(some 31)),([],none)] (by kernel_rfl) (by kernel_rfl) ?_
  refine z_m ?_;refine z_q ?_;refine z_f ?_;refine z_f ?_;refine z_l ?_;refine z_m ?_;refine z_q ?_;refine z_f ?_;refine z_f ?_;refine z_l ?_;refine ZAB rfl rfl rfl rfl rfl (fun _=>A_tt e1 (ZAX rfl rfl)) ?_;refine z_m ?_;refine g_m ?_;refine g_q ?_;refine g_f ?_;refine g_f ?_;refine g_l ?_;refine g_m ?_;refine ZAF [0,1,2,3,4,5,6,7,8,9,10,11,17] (by kernel_rfl) rfl (ZAA rfl) rfl nb rfl (ZAs rfl rfl rfl rfl rfl Bod.h hoY ?_)
  first|refine ZAV rfl rfl rfl rfl ?_|refine ZAB rfl rfl rfl rfl rfl (fun _=>A_ff e2 (ZAW rfl rfl)) ?_
  refine z_p ?_;refine z_m ?_;refine g_m ?_;refine g_q ?_;refine g_f ?_;refine g_f ?_;refine g_l ?_;refine g_m ?_;refine ZAF [0,1,2,3,4,5,6,7,8,9,10,11,12,13,14,15,16,17,18,19,20,21,27] (by kernel_rfl) rfl (by refine o_l 16 ?_;refine o_f 15 ?_;refine o_f 14 ?_;refine o_q 13 ?_;refine o_m 12 ?_;exact ZAA rfl) rfl nb rfl (ZBP rfl ?_);refine z_o ?_;refine z_p ?_;refine ZAF [0,1,2,3,4,5,6,7,8,9,10,11,12,13,14,15,16,17,18,19,20,21,22,23,24,25,26,27,28,29,30] (by kernel_rfl) rfl (by refine o_l 26 ?_;refine o_f 25 ?_;refine o_f 24 ?_;refine o_q 23 ?_;refine o_m 22 ?_;exact ZAA rfl) rfl nb rfl (ZAj rfl rfl (ZAO rfl) ?_)
  refine ZAM (ZAA rfl) nb' ?_;refine zy ?_;exact ZAC (ZAD rfl ⟨by rw[decide_eq_false (fun e=>e2 e.2.1)];rfl,rfl⟩)
 by_cases e3:y.minute<ox
 ·refine ZAJ hmix [0,1,3,7,15,0,32,96,224,480,1023,2047,4095,8191,16383,32767,65535,4095,135167,524287,1048575,2097151,4194303,8388607,16777215,33554431,67108863,4194303,138412031,536870911,1073741823,2147483647] [0,1,2,3,4,5,6,7,8,9,10,11,12,13,14,15,16,17] (some 18) [([19,20,21,22,23,24,25,26,27],(some 28)),([29,30],(some 31)),([],none)] (by kernel_rfl) (by kernel_rfl) ?_
  refine z_m ?_;refine z_q ?_;refine z_f ?_;refine z_f ?_;refine z_l ?_;refine z_m ?_;refine z_q ?_;refine z_f ?_;refine z_f ?_;refine z_l ?_;refine ZAB rfl rfl rfl rfl rfl (fun _=>A_tt e1 (ZAX rfl rfl)) ?_;refine z_m ?_;refine g_m ?_;refine g_q ?_;refine g_f ?_;refine g_f ?_;refine g_l ?_;refine g_m ?_;refine ZAF [0,1,2,3,4,5,6,7,8,9,10,11,17] (by kernel_rfl) rfl (ZAA rfl) rfl nb rfl (ZAs rfl rfl rfl rfl rfl Bod.h hoY ?_)
  first|refine ZAV rfl rfl rfl rfl ?_|refine ZAB rfl rfl rfl rfl rfl (fun _=>A_tt e2 (ZAW rfl rfl)) ?_
  refine z_p ?_;refine z_m ?_;refine g_m ?_;refine g_q ?_;refine g_f ?_;refine g_f ?_;refine g_l ?_;refine g_m ?_;refine ZAF [0,1,2,3,4,5,6,7,8,9,10,11,12,13,14,15,16,17,18,19,20,21,27] (by kernel_rfl) rfl (by refine o_l 16 ?_;refine o_f 15 ?_;refine o_f 14 ?_;refine o_q 13 ?_;refine o_m 12 ?_;exact ZAA rfl) rfl nb rfl (ZAs rfl rfl rfl rfl rfl Bod.h hoX ?_)
  first|refine ZAV rfl rfl rfl rfl ?_|refine ZAB rfl rfl rfl rfl rfl (fun _=>A_tt e3 (ZAW rfl rfl)) ?_
  refine z_p ?_;refine ZAF [0,1,2,3,4,5,6,7,8,9,10,11,12,13,14,15,16,17,18,19,20,21,22,23,24,25,26,27,28,29,30] (by kernel_rfl) rfl (by refine o_l 26 ?_;refine o_f 25 ?_;refine o_f 24 ?_;refine o_q 23 ?_;refine o_m 22 ?_;exact ZAA rfl) rfl nb rfl (ZAj rfl rfl (ZAO rfl) ?_);refine ZAM (ZAA rfl) nb' ?_;refine zy ?_;exact ZAC (ZAD rfl ⟨by rw[decide_eq_true ⟨e1,e2,e3⟩];rfl,rfl⟩)
 ·refine ZAJ hmix [0,1,3,7,15,0,32,96,224,480,1023,2047,4095,8191,16383,32767,65535,4095,135167,524287,1048575,2097151,4194303,8388607,16777215,33554431,67108863,4194303,138412031,536870911,1073741823,2147483647] [0,1,2,3,4,5,6,7,8,9,10,11,12,13,14,15,16,17] (some 18) [([19,20,21,22,23,24,25,26,27],(some 28)),([29,30],(some 31)),([],none)] (by kernel_rfl) (by kernel_rfl) ?_
  refine z_m ?_;refine z_q ?_;refine z_f ?_;refine z_f ?_;refine z_l ?_;refine z_m ?_;refine z_q ?_;refine z_f ?_;refine z_f ?_;refine z_l ?_;refine ZAB rfl rfl rfl rfl rfl (fun _=>A_tt e1 (ZAX rfl rfl)) ?_;refine z_m ?_;refine g_m ?_;refine g_q ?_;refine g_f ?_;refine g_f ?_;refine g_l ?_;refine g_m ?_;refine ZAF [0,1,2,3,4,5,6,7,8,9,10,11,17] (by kernel_rfl) rfl (ZAA rfl) rfl nb rfl (ZAs rfl rfl rfl rfl rfl Bod.h hoY ?_)
  first|refine ZAV rfl rfl rfl rfl ?_|refine ZAB rfl rfl rfl rfl rfl (fun _=>A_tt e2 (ZAW rfl rfl)) ?_
  refine z_p ?_;refine z_m ?_;refine g_m ?_;refine g_q ?_;refine g_f ?_;refine g_f ?_;refine g_l ?_;refine g_m ?_;refine ZAF [0,1,2,3,4,5,6,7,8,9,10,11,12,13,14,15,16,17,18,19,20,21,27] (by kernel_rfl) rfl (by refine o_l 16 ?_;refine o_f 15 ?_;refine o_f 14 ?_;refine o_q 13 ?_;refine o_m 12 ?_;exact ZAA rfl) rfl nb rfl (ZAs rfl rfl rfl rfl rfl Bod.h hoX ?_)
  first|refine ZAV rfl rfl rfl rfl ?_|refine ZAB rfl rfl rfl rfl rfl (fun _=>A_ff e3 (ZAW rfl rfl)) ?_
  refine z_p ?_;refine ZAF [0,1,2,3,4,5,6,7,8,9,10,11,12,13,14,15,16,17,18,19,20,21,22,23,24,25,26,27,28,29,30] (by kernel_rfl) rfl (by refine o_l 26 ?_;refine o_f 25 ?_;refine o_f 24 ?_;refine o_q 23 ?_;refine o_m 22 ?_;exact ZAA rfl) rfl nb rfl (ZAj rfl rfl (ZAO rfl) ?_);refine ZAM (ZAA rfl) nb' ?_;refine zy ?_;exact ZAC (ZAD rfl ⟨by rw[decide_eq_false (fun e=>e3 e.2.2)];rfl,rfl⟩)
theorem ZJH {a:Option Addr}{cap:Nat}{l:List (Nat×ScS)}{h:Heap}{g:FuncId}{first capv:List Value}{p:Nat×ScS->Bool}(hI:ZBL ptrZ h a l)(hbd:ZAm Tryz.prog g=true)
  (hp:∀h1,Ext h h1->∀x∈l,Sv Tryz.prog g (first++([ptrZ x]++capv)) h1 (RetP fun v h'=>v=.bool (p x)/\Ext h1 h')) (hlen:l.length<9223372036854775808) :
  Sv Tryz.prog 156 [.slice a l.length cap,.func (.func g) ⟨first⟩ ⟨capv⟩] h (RetP fun v h'=>v=i64 (ZBY p l)/\Ext h h'):=by
 refine ZAH Tryz.func156 rfl (by rw[Tryz.ntmps156];rfl) ?_;show Wc Tryz.prog ⟨156,19,none⟩ _ _ _ _ _;refine zy ?_
 refine ZAT (fun (k:Nat) m ds h'=>ds=[]/\Ext h h'/\k<=l.length/\(∀j (hj:j<l.length),j<k->p l[j]=false)/\AllK m [(0,.slice a l.length cap),(1,.func (.func g) ⟨first⟩ ⟨capv⟩),(7,i64 l.length),(8,i64 k)])
  (fun k=>l.length-k) 0 ?_ ?_
 ·exact⟨rfl,Ext.refl _,Nat.zero_le _,(fun _ _ hj=>by omega),rfl,rfl,rfl,rfl,trivial⟩
 rintro k m ds h' ⟨rfl,hE,hk,hno,hall⟩;refine Wc.le ?_ (Le.kn hall);refine zy ?_;refine ZAE rfl rfl rfl rfl (ZAW rfl rfl) (fun h1=>?_) (fun h1=>?_)
 ·have hk':k<l.length:=by simpa using h1
  obtain⟨b,o,oa,rfl,hc⟩:=hI k hk';refine zy ?_;refine ZAI rfl rfl rfl rfl (A_ix Und.h Tsz.h rfl rfl) ?_;refine zy ?_;refine ZAn rfl rfl rfl rfl rfl hbd rfl rfl (hp h' hE _ (List.getElem_mem hk')) (fun hb h2 hE2=>?_) (fun hb h2 hE2=>?_)
  ·refine zy ?_
   refine ZAC (ZAD rfl ⟨?_,hE.trans hE2⟩);have:l.findIdx? p=some k:=by
    rw[List.findIdx?_eq_some_iff_getElem];exact⟨hk',hb,fun j hj=>by simp[hno j (by omega) hj]⟩
   simp[ZBY,this];rfl
  ·refine zy ?_
   refine⟨k+1,?_,rfl,hE.trans hE2,hk',?_,rfl,rfl,rfl,rfl,trivial⟩
   ·show l.length-(k+1)<l.length-k;omega
   ·intro j hj hlt
    rcases Nat.lt_or_ge j k with g|g
    ·exact hno j hj g
    ·have:j=k:=by omega
     subst this;exact hb
 ·have hk2:k=l.length:=by omega
  subst hk2;refine zy ?_;refine ZAC (ZAD rfl ⟨?_,hE⟩);have:l.findIdx? p=none:=by
   rw[List.findIdx?_eq_none_iff];intro x hx;obtain⟨j,hj,rfl⟩:=List.getElem_of_mem hx;exact hno j hj hj
  simp[ZBY,this];rfl
theorem ZQx {α:Type}{l:List α}{p:α->Bool}{k:Nat}(hk:k<l.length)(hno:∀j (hj:j<l.length),j<k->p l[j]=false)(hp:p l[k]=true):l.find? p=some l[k]:=by
 rw[List.find?_eq_some_iff_getElem];exact⟨hp,k,hk,rfl,fun j hj=>by simp[hno j (by omega) hj]⟩
theorem ZQ3 {α:Type}{l:List α}{p:α->Bool}(hno:∀j (hj:j<l.length),p l[j]=false):l.find? p=none:=by
 rw[List.find?_eq_none];intro x hx;obtain⟨j,hj,rfl⟩:=List.getElem_of_mem hx;simp[hno j hj]
def ZBT (t:ScT)(l:List ScS):Int:=if 40<l.length then 3 else match l.find? fun s=>decide (ZAQ t s≠0) with|some s=>ZAQ t s|none=>0
theorem ZHZ {t:ScT}{l:List ScS}(h:ZCU t=0):ZD5 t l=ZBT t l:=by unfold ZD5 ZBT;rw[if_neg (fun e=>e h)];rfl
theorem ZMm {t:ScT}{l:List ScS}(h:¬ZCU t=0):ZD5 t l=ZCU t:=by unfold ZD5;rw[if_pos h]
theorem ZG2 {t:ScT}{l:List ScS}(h:40<l.length):ZBT t l=3:=by unfold ZBT;rw[if_pos h]
theorem ZKc {t:ScT}{l:List ScS}(h:¬40<l.length){k:Nat}(hk:k<l.length)(hno:∀j (hj:j<l.length),j<k->ZAQ t l[j]=0)(hp:ZAQ t l[k]≠0):ZBT t l=ZAQ t l[k]:=by
 unfold ZBT;rw[if_neg h,ZQx (p:=fun s=>decide (ZAQ t s≠0)) hk (fun j hj hlt=>by simp[hno j hj hlt]) (decide_eq_true hp)]
theorem ZKH {t:ScT}{l:List ScS}(h:¬40<l.length)(hno:∀j (hj:j<l.length),ZAQ t l[j]=0):ZBT t l=0:=by
 unfold ZBT;rw[if_neg h,ZQ3 (p:=fun s=>decide (ZAQ t s≠0)) fun j hj=>by simp[hno j hj]]
theorem ZHC {t:ScT}{l:List ScS}(h:ZBT t l=0):l.length<=40/\∀s∈l,ZAQ t s=0:=by
 unfold ZBT at h
 split at h
 ·cases h
 rename_i h40;refine⟨by omega,fun s hs=>?_⟩
 split at h
 ·rename_i s' hf
  have:=List.find?_some (p:=fun s=>decide (ZAQ t s≠0)) hf;exact absurd h (of_decide_eq_true this)
 ·rename_i hf
  have:=List.find?_eq_none.1 hf s hs
  simpa using this
def AllR (t:ScT)(l:List ScS)(bH:Nat)(h:Heap)(v:Value)(h':Heap):Prop:=Ext h h'/\((¬ZBT t l=0/\v=.tuple ⟨[.slice none 0 0,i64 (ZBT t l)]⟩)\/(ZBT t l=0/\∃va zs,v=.tuple ⟨[va,i64 0]⟩/\zs.map Prod.snd=l/\Own h h' [slI h va 152 1 (zs.map ptrZ) zs.length,shI bH t zs]/\(zs.map Prod.fst).Nodup))
set_option maxHeartbeats 1000000 in
theorem ZSA {bH:Nat}{t:ScT}{l:List ScS}{al:Option Addr}{cl:Nat}{h:Heap}(hH:ZCu h bH t)(hO:ScOk t)(hl:ZAN 6 ScSR h al l)(hlF:∀s∈l,s.Fit)(hL:Len l):Sv Tryz.prog 103 [.pointer (some ⟨bH,0,none⟩),.slice al l.length cl] h (RetP (AllR t l bH h)):=by
 refine ZAy fun hw=>?_;refine ZAH Tryz.func103 rfl (by rw[Tryz.ntmps103];rfl) ?_;show Wc Tryz.prog ⟨103,34,none⟩ _ _ _ _ _;refine zy ?_;refine ZAE rfl rfl rfl rfl (ZB0 rfl rfl) (fun h1=>?_) (fun h1=>?_)
 ·refine zy ?_
  have e:=ZG2 (t:=t) (show 40<l.length by omega);exact ZAC (ZAD rfl ⟨Ext.refl _,.inl ⟨by rw[e];decide,by rw[e];rfl⟩⟩)
 have hl40:¬40<l.length:=by omega
 refine zy ?_
 refine ZAT (fun (s:Nat×Value×List (Nat×ScS)) m ds h'=>ds=[]/\s.1<=l.length/\Ext h h'/\Own h h' [slI h s.2.1 152 1 (s.2.2.map ptrZ) s.2.2.length,shI bH t s.2.2]/\s.2.2.map Prod.snd=l.take s.1/\(s.2.2.map Prod.fst).Nodup/\(∀j (hj:j<l.length),j<s.1->ZAQ t l[j]=0) ∧
   AllK m [(0,.pointer (some ⟨bH,0,none⟩)),(4,s.2.1),(13,.slice al l.length cl),(14,i64 l.length),(15,i64 s.1)]) (fun s=>l.length-s.1) (0,.slice none 0 0,[]) ?_ ?_
 ·exact⟨rfl,Nat.zero_le _,Ext.refl _,((Own.nil h h).new hw (Nat.le_refl _) (Ext.refl _) (y:=shI bH t []) (fun _ hz=>nomatch hz) (fun _ hc=>nomatch hc)).nilSl 152 1,rfl,.nil,(fun j _ hj=>absurd hj (Nat.not_lt_zero _)),rfl,rfl,rfl,rfl,rfl,trivial⟩
 rintro⟨k,v,zs⟩ m ds h2 ⟨rfl,hk,hE2,hO2,hzs,hnd,hno,hall⟩;simp only at hk hO2 hzs hnd hno hall;refine ZDG fun hw2=>?_;have hzl:zs.length=k:=by
  have:=congrArg List.length hzs;rw[List.length_map,List.length_take] at this;omega
 refine Wc.le ?_ (Le.kn hall);refine zy ?_;refine ZAE rfl rfl rfl rfl (ZAW rfl rfl) (fun h3=>?_) (fun h3=>?_)
 ·have hk':k<l.length:=by simpa using h3
  obtain⟨b,o,oa,rfl,row,hrow,hr⟩:=hl k hk';have hFx:=hlF _ (List.getElem_mem hk');have htk:l.take (k+1)=l.take k++[l[k]]:=by rw[List.take_add_one,List.getElem?_eq_getElem hk'];rfl
  have herr:=ZKc hl40 hk' hno
  have hnx:ZAQ t l[k]=0->∀j (hj:j<l.length),j<k+1->ZAQ t l[j]=0:=fun e j hj hlt=>by
   rcases Nat.lt_or_ge j k with g|g
   ·exact hno j hj g
   ·have:j=k:=by omega
    subst this;exact e
  generalize hmk:l[k]=x at *;obtain rfl:=hr;have hrow2:=hE2.row hrow;refine zy ?_;refine ZAI rfl rfl rfl rfl (A_ix Und.h Tsz.h rfl rfl) ?_;refine zy ?_;refine ZAh rfl rfl Zr.h Tsz.h rfl (fun _=>rfl) rfl rfl rfl fun h4 hE4 hW4 hg4 hn4=>?_;have hO4:=hO2.ext hE4;refine zy ?_;refine ZAq rfl rfl rfl rfl rfl Bod.h rfl rfl (ZQP (hH.ext (hE2.trans hE4)) hO hFx rfl) ?_;rintro v5 h5 ⟨hE5,⟨hs0,rfl⟩|⟨hs0,bS,rfl,hS,hbS⟩⟩
  ·refine zy ?_
   refine ZAE rfl rfl rfl rfl (ZAb rfl rfl) (fun h6=>?_) (fun h6=>?_)
   ·refine zy ?_
    exact ZAC (ZAD rfl ⟨hE2.trans (hE4.trans hE5),.inl ⟨by rw[herr hs0];exact hs0,by rw[herr hs0];rfl⟩⟩)
   ·exact absurd (Decidable.not_not.1 h6) hs0
  ·refine zy ?_
   refine ZAE rfl rfl rfl rfl (ZAb rfl rfl) (fun h6=>?_) (fun h6=>?_)
   ·exact absurd rfl h6
   refine zy ?_;have hE24:=hE2.trans hE4
   have hnew:bS ∉ zs.map Prod.fst:=fun hm=>by
    obtain⟨z,hz,rfl⟩:=List.mem_map.1 hm;have h7:ZCg h4 bH t zs:=hO4.p2;have:=hW4 _ _ (h7 z hz);omega
   have hO5:=hO4.new hW4 hE24.2.1 hE5 (y:=shI bH t [(bS,x)]) (fun z hz=>by rw[List.mem_singleton.1 hz];exact hS) (fun c hc=>by rw[List.mem_singleton.1 (show c∈[bS] from hc)];exact hbS)
   have hO6:=(hO5.up3.merge (z:=shI bH t (zs++[(bS,x)])) (fun a b z hz=>(List.mem_append.1 hz).elim (a z) (b z)) (fun c hc=>by
    have:c∈zs.map Prod.fst++[bS]:=by
     have hc':c∈(zs++[(bS,x)]).map Prod.fst:=hc;rw[List.map_append] at hc';exact hc'
    exact (List.mem_append.1 this).elim .inl .inr)).up2
   clear hO5 hO4 hO2;refine ZC8 rfl rfl Und.h Tsz.h Zr.h rfl rfl rfl rfl rfl fun h7 hE7 hW7 hg7 hn7=>?_;have hml:(zs++[(bS,x)]).length=zs.length+1:=by simp
   have hmm:(zs++[(bS,x)]).map ptrZ=zs.map ptrZ++[.pointer (some ⟨bS,0,none⟩)]:=by rw[List.map_append];rfl
   refine ZBV (k:=1) (l:=[.pointer (some ⟨bS,0,none⟩)]) hw (hE24.trans (hE5.trans hE7)) rfl rfl rfl rfl rfl Und.h inferInstance rfl rfl (hO6.ext hE7) (ZBC Und.h (by intro k;simp) (ZAd hg7 rfl)) rfl rfl (by omega) (by omega) fun v8 h8 hW8 hO8 hE8=>?_;rw[<-hml,<-hmm] at hO8;refine zy ?_;refine⟨(k+1,v8,zs++[(bS,x)]),?_,rfl,hk',hE8,hO8,?_,?_,hnx hs0,rfl,rfl,rfl,rfl,rfl,trivial⟩
   ·show l.length-(k+1)<l.length-k;omega
   ·rw[List.map_append,hzs,htk];rfl
   ·show ((zs++[(bS,x)]).map Prod.fst).Nodup
    rw[List.map_append,List.nodup_append];exact⟨hnd,by simp,fun a ha b hb e=>hnew (by rw[<-List.mem_singleton.1 (show b∈[bS] from hb),<-e];exact ha)⟩
 have hk2:k=l.length:=by omega
 subst hk2;have e0:=ZKH hl40 fun j hj=>hno j hj hj;rw[List.take_length] at hzs;refine zy ?_;exact ZAC (ZAD rfl ⟨hE2,.inr ⟨e0,v,zs,rfl,hzs,hO2,hnd⟩⟩)
def PlayR (t:ScT)(l:List ScS)(h:Heap)(v:Value)(h':Heap):Prop:=Ext h h'/\((¬ZD5 t l=0/\v=.tuple ⟨[.slice none 0 0,.slice none 0 0,i64 (ZD5 t l)]⟩)\/(ZD5 t l=0/\∃va vb,v=.tuple ⟨[va,vb,i64 0]⟩/\ZAG h h' va 42 6 ((ZP6 t l).1.flatMap shVs) (ZP6 t l).1.length/\ZAG h h' vb 32 1 ((ZP6 t l).2.map i64) (ZP6 t l).2.length))
theorem ZOQ {a:Option Addr}{cap k:Nat}{l:List (Nat×ScS)}{h:Heap}(hI:ZBL ptrZ h a l)(hc:∀x∈l,∃vs el op,h.get x.1=some (.cells vs el op))(hk:k<l.length)(hf:∀j (hj:j<k),(l[j]'(by omega)).1≠l[k].1)(hlen:l.length<9223372036854775808) :
  Sv Tryz.prog 112 [.slice a l.length cap,ptrZ l[k]] h (RetP fun v h'=>v=i64 (k:Nat)/\h'=h):=by
 refine ZAH Tryz.func112 rfl (by rw[Tryz.ntmps112];rfl) ?_;show Wc Tryz.prog ⟨112,19,none⟩ _ _ _ _ _;refine zy ?_;refine ZAT (fun (j:Nat) m ds h'=>ds=[]/\h=h'/\j<=k/\AllK m [(0,.slice a l.length cap),(1,ptrZ l[k]),(7,i64 l.length),(8,i64 (j:Nat))]) (fun j=>k-j) 0 ?_ ?_
 ·exact⟨rfl,rfl,Nat.zero_le _,rfl,rfl,rfl,rfl,trivial⟩
 rintro j m ds h' ⟨rfl,rfl,hj,hall⟩;refine Wc.le ?_ (Le.kn hall);clear hall;have hjl:j<l.length:=by omega
 obtain⟨b,o,oa,rfl,hcell⟩:=hI j hjl;refine zy ?_;refine ZAI rfl rfl rfl rfl (A_tt (by omega) (ZAW rfl rfl)) ?_;refine zy ?_;refine ZAI rfl rfl rfl rfl (A_ix Und.h Tsz.h rfl rfl) ?_;refine zy ?_
 by_cases hjk:j<k
 ·obtain⟨v1,e1,p1,g1⟩:=hc _ (List.getElem_mem hk)
  obtain⟨v2,e2,p2,g2⟩:=hc _ (List.getElem_mem hjl);refine ZAI rfl rfl rfl rfl (ZMf rfl rfl (by kernel_rfl) (ZOC (j:=(Tryz.prog.info? 156).getD default) Und.h (by kernel_rfl) (by kernel_rfl) (Ne.symm (hf j hjk)) g1 g2) (by intro n e;cases e)) ?_;refine zy ?_;exact⟨j+1,(by show k-(j+1)<k-j;omega),rfl,rfl,hjk,rfl,rfl,rfl,rfl,trivial⟩
 ·have:j=k:=by omega
  subst this;refine ZAI rfl rfl rfl rfl (ZMf rfl rfl (by kernel_rfl) (ZOj (j:=(Tryz.prog.info? 156).getD default) Und.h (by kernel_rfl)) (by intro n e;cases e)) ?_;refine zy ?_;exact ZAC (ZAD rfl ⟨rfl,rfl⟩)
theorem ZDI {tc sr:List Value}{t:ScT}{s:ScS}{h:Heap}(ht:ZBX h tc t)(hO:ScOk t)(hs0:ZAQ t s=0)(hr:ScSR h sr s):Sv Tryz.prog 107 [.agg ⟨tc⟩,.agg ⟨sr⟩] h (RetP fun v h'=>v=i64 (ZA0 t s)/\Ext h h'):=by
 have ht0:=ht;obtain⟨al,cl,at',ct,a1,c1',a2,c2',a3,c3',a4,c4',a5,c5',a6,c6',rfl,m1,m2,m3,m4,m5,m6,m7,m8⟩:=ht;obtain rfl:=hr;have q1:=hO.venues1;have hlr:=ZEN hO hs0;obtain⟨⟨v1,v2⟩,-,⟨mi1,mi2⟩,-⟩:=ZAo hs0;obtain⟨-,-,-,⟨tu1,tu2⟩,-⟩:=ZDb (ZG0 hO hs0);have hov:ZA0 t s=s.minute+ZCw t s+(ZAr t s).turn:=rfl;have hlong:=fun {h':Heap} (hE:Ext h h')=>ZHw (ht0.ext hE) hO hs0 (rfl:ScSR h' _ s);rw[hov];refine ZAy fun hw=>?_;refine ZAH Tryz.func107 rfl (by rw[Tryz.ntmps107];rfl) ?_;show Wc Tryz.prog ⟨107,19,none⟩ _ _ _ _ _;refine zy ?_;refine ZAa rfl rfl rfl fun h1 hE1 hW1 hg1 hn1=>?_;refine ZAa rfl rfl rfl fun h2 hE2 hW2 hg2 hn2=>?_
 replace hg1:=hE2.get hg1;have hE:=hE1.trans hE2;generalize h.nx=b1 at *;generalize h1.nx=b2 at *;clear hE1 hE2 hW1 hn1 hn2;obtain⟨bn,on,oan,rfl,hrv⟩:=ZFv (ZAN.ext (R:=ScVR) (fun x _=>x) m3 hE) (s:=s) v1 v2;have z1:ZAc h2 bn (on+s.venue.toNat*9+7)=some (i64 (ZAr t s).turn):=ZAR hrv rfl;clear hrv;generalize (ZAr t s).turn=T at *;have hl2:=hlong hE;generalize ZCw t s=N at *;refine zy ?_;refine ZAJ hmix [0,1,0,0,12,31,0,64,0,256,960,1984,4032,8191,16383] [0,1,2,3,6,7,8,9,10,11,12] (some 4) [([5,13],(some 14)),([],none)] (by kernel_rfl) (by kernel_rfl) ?_;refine z_f ?_;refine z_l ?_;refine z_r ?_;refine z_r ?_;refine z_f ?_;refine z_l ?_;refine z_f ?_;refine z_l ?_;refine ZAB rfl rfl rfl rfl rfl (fun _=>ZAK (k:=s.venue.toNat) Und.h Tsz.h rfl rfl (by omega) (by omega)) ?_;refine z_f ?_;refine z_l ?_
 refine ZAF [2,3] (by kernel_rfl) rfl (ZAA rfl) rfl nb rfl (ZAZ rfl rfl rfl rfl rfl Bod.h hl2 (fun h3 hE3=>?_));have k13:=hE3.get hg1;have k23:=hE3.get hg2;have z13:=hE3.cell z1;refine z_y ?_;refine z_y ?_;refine ZAF [0,1,2,3,4,5,6,7,8,9,10,11,12,13] (by kernel_rfl) rfl (by refine t_l 12 ?_;refine t_f 11 ?_;refine ZAY (i:=10) rfl rfl rfl rfl rfl (fun _=>ZAK (k:=s.venue.toNat) Und.h Tsz.h rfl rfl (by omega) (by omega)) rfl ?_;refine t_l 9 ?_;refine t_f 8 ?_;refine t_l 7 ?_;refine t_f 6 ?_;refine t_l 1 ?_;refine t_f 0 ?_;exact ZAA rfl) rfl nb rfl (ZAj rfl rfl (ZAO rfl) ?_);refine ZAM (ZAA rfl) nb' ?_
 refine zy ?_;exact ZAC (ZAD rfl ⟨rfl,hE.trans hE3⟩)
theorem ZIv {tc ar br:List Value}{t:ScT}{a b:ScS}{h:Heap}(ht:ZBX h tc t)(hO:ScOk t)(ha0:ZAQ t a=0)(hb0:ZAQ t b=0)(hra:ScSR h ar a)(hrb:ScSR h br b):Sv Tryz.prog 41 [.agg ⟨tc⟩,.agg ⟨ar⟩,.agg ⟨br⟩] h (RetP fun v h'=>v=.bool (ZDD t a b)/\Ext h h'):=by
 have ht0:=ht;obtain⟨al,cl,at',ct,a1,c1',a2,c2',a3,c3',a4,c4',a5,c5',a6,c6',rfl,-⟩:=ht;obtain rfl:=hra;obtain rfl:=hrb;have hoA:=fun {h':Heap} (hE:Ext h h')=>ZDI (ht0.ext hE) hO ha0 (rfl:ScSR h' _ a);have hoB:=fun {h':Heap} (hE:Ext h h')=>ZDI (ht0.ext hE) hO hb0 (rfl:ScSR h' _ b);unfold ZDD;generalize ZA0 t a=oa at *;generalize ZA0 t b=ob at *;refine ZAy fun hw=>?_;refine ZAH Tryz.func41 rfl (by rw[Tryz.ntmps41];rfl) ?_;show Wc Tryz.prog ⟨41,28,none⟩ _ _ _ _ _;refine zy ?_;refine ZAa rfl rfl rfl fun h1 hE1 hW1 hg1 hn1=>?_;refine ZAa rfl rfl rfl fun h2 hE2 hW2 hg2 hn2=>?_;refine ZAa rfl rfl rfl fun h3 hE3 hW3 hg3 hn3=>?_
 replace hg1:=hE3.get (hE2.get hg1);replace hg2:=hE3.get hg2;have hE:=hE1.trans (hE2.trans hE3);generalize h.nx=b1 at *;generalize h1.nx=b2 at *;generalize h2.nx=b3 at *;clear hE1 hE2 hE3 hW1 hW2 hn1 hn2 hn3;have hoA3:=fun {h':Heap} (hE':Ext h3 h')=>hoA (hE.trans hE');have hoB3:=hoB hE;clear hoA hoB;refine zy ?_
 by_cases e1:a.venue=b.venue
 rotate_left
 ·refine ZAJ hmix [0,1,0,4,15,31,63,127,63,63,831,2047,4095,8191,16383,32767,16383,16383,212991,524287,1048575,2097151] [0,1,2,3,4,5,6,7,8,9] (some 10) [([11,12,13,14,15,16,17],(some 18)),([19,20],(some 21)),([],none)] (by kernel_rfl) (by kernel_rfl) ?_
  refine z_f ?_;refine z_l ?_;refine z_f ?_;refine z_l ?_;refine ZAB rfl rfl rfl rfl rfl (fun _=>A_ff e1 (ZAX rfl rfl)) ?_;refine z_m ?_;refine g_f ?_;refine g_l ?_;refine g_r ?_;refine g_r ?_;refine ZAF [0,1,2,3,4,5,8,9] (by kernel_rfl) rfl (ZAA rfl) rfl nb rfl (ZBP rfl ?_);refine z_o ?_;refine z_p ?_;refine z_m ?_;refine g_f ?_;refine g_l ?_;refine g_r ?_;refine g_r ?_;refine ZAF [0,1,2,3,4,5,6,7,8,9,10,11,12,13,16,17] (by kernel_rfl) rfl (by refine o_l 7 ?_;refine o_f 6 ?_;exact ZAA rfl) rfl nb rfl (ZBP rfl ?_);refine z_o ?_;refine z_p ?_;refine ZAF [0,1,2,3,4,5,6,7,8,9,10,11,12,13,14,15,16,17,18,19,20] (by kernel_rfl) rfl (by refine o_l 15 ?_;refine o_f 14 ?_;exact ZAA rfl) rfl nb rfl (ZAj rfl rfl (ZAO rfl) ?_)
  refine ZAM (ZAA rfl) nb' ?_;refine zy ?_;exact ZAC (ZAD rfl ⟨by rw[decide_eq_false (fun e=>e1 e.1)];rfl,hE⟩)
 by_cases e2:a.minute<ob
 rotate_left
 ·refine ZAJ hmix [0,1,0,4,15,31,63,127,63,63,831,2047,4095,8191,16383,32767,16383,16383,212991,524287,1048575,2097151] [0,1,2,3,4,5,6,7,8,9] (some 10) [([11,12,13,14,15,16,17],(some 18)),([19,20],(some 21)),([],none)] (by kernel_rfl) (by kernel_rfl) ?_
  refine z_f ?_;refine z_l ?_;refine z_f ?_;refine z_l ?_;refine ZAB rfl rfl rfl rfl rfl (fun _=>A_tt e1 (ZAX rfl rfl)) ?_;refine z_m ?_;refine g_f ?_;refine g_l ?_;refine g_r ?_;refine g_r ?_;refine ZAF [0,1,2,3,4,5,8,9] (by kernel_rfl) rfl (ZAA rfl) rfl nb rfl (ZAZ rfl rfl rfl rfl rfl Bod.h hoB3 (fun h4 hE4=>?_));have k14:=hE4.get hg1;have k24:=hE4.get hg2;have k34:=hE4.get hg3
  first|refine ZAV rfl rfl rfl rfl ?_|refine ZAB rfl rfl rfl rfl rfl (fun _=>A_ff e2 (ZAW rfl rfl)) ?_
  refine z_p ?_;refine z_m ?_;refine g_f ?_;refine g_l ?_;refine g_r ?_;refine g_r ?_;refine ZAF [0,1,2,3,4,5,6,7,8,9,10,11,12,13,16,17] (by kernel_rfl) rfl (by refine o_l 7 ?_;refine o_f 6 ?_;exact ZAA rfl) rfl nb rfl (ZBP rfl ?_);refine z_o ?_;refine z_p ?_;refine ZAF [0,1,2,3,4,5,6,7,8,9,10,11,12,13,14,15,16,17,18,19,20] (by kernel_rfl) rfl (by refine o_l 15 ?_;refine o_f 14 ?_;exact ZAA rfl) rfl nb rfl (ZAj rfl rfl (ZAO rfl) ?_);refine ZAM (ZAA rfl) nb' ?_;refine zy ?_;exact ZAC (ZAD rfl ⟨by rw[decide_eq_false (fun e=>e2 e.2.1)];rfl,hE.trans hE4⟩)
 by_cases e3:b.minute<oa
 ·refine ZAJ hmix [0,1,0,4,15,31,63,127,63,63,831,2047,4095,8191,16383,32767,16383,16383,212991,524287,1048575,2097151] [0,1,2,3,4,5,6,7,8,9] (some 10) [([11,12,13,14,15,16,17],(some 18)),([19,20],(some 21)),([],none)] (by kernel_rfl) (by kernel_rfl) ?_
  refine z_f ?_;refine z_l ?_;refine z_f ?_;refine z_l ?_;refine ZAB rfl rfl rfl rfl rfl (fun _=>A_tt e1 (ZAX rfl rfl)) ?_;refine z_m ?_;refine g_f ?_;refine g_l ?_;refine g_r ?_;refine g_r ?_;refine ZAF [0,1,2,3,4,5,8,9] (by kernel_rfl) rfl (ZAA rfl) rfl nb rfl (ZAZ rfl rfl rfl rfl rfl Bod.h hoB3 (fun h4 hE4=>?_));have k14:=hE4.get hg1;have k24:=hE4.get hg2;have k34:=hE4.get hg3
  first|refine ZAV rfl rfl rfl rfl ?_|refine ZAB rfl rfl rfl rfl rfl (fun _=>A_tt e2 (ZAW rfl rfl)) ?_
  refine z_p ?_;refine z_m ?_;refine g_f ?_;refine g_l ?_;refine g_r ?_;refine g_r ?_;refine ZAF [0,1,2,3,4,5,6,7,8,9,10,11,12,13,16,17] (by kernel_rfl) rfl (by refine o_l 7 ?_;refine o_f 6 ?_;exact ZAA rfl) rfl nb rfl (ZAZ rfl rfl rfl rfl rfl Bod.h (hoA3 hE4) (fun h5 hE5=>?_));have k15:=hE5.get k14;have k25:=hE5.get k24;have k35:=hE5.get k34
  first|refine ZAV rfl rfl rfl rfl ?_|refine ZAB rfl rfl rfl rfl rfl (fun _=>A_tt e3 (ZAW rfl rfl)) ?_
  refine z_p ?_;refine ZAF [0,1,2,3,4,5,6,7,8,9,10,11,12,13,14,15,16,17,18,19,20] (by kernel_rfl) rfl (by refine o_l 15 ?_;refine o_f 14 ?_;exact ZAA rfl) rfl nb rfl (ZAj rfl rfl (ZAO rfl) ?_);refine ZAM (ZAA rfl) nb' ?_;refine zy ?_;exact ZAC (ZAD rfl ⟨by rw[decide_eq_true ⟨e1,e2,e3⟩];rfl,hE.trans (hE4.trans hE5)⟩)
 ·refine ZAJ hmix [0,1,0,4,15,31,63,127,63,63,831,2047,4095,8191,16383,32767,16383,16383,212991,524287,1048575,2097151] [0,1,2,3,4,5,6,7,8,9] (some 10) [([11,12,13,14,15,16,17],(some 18)),([19,20],(some 21)),([],none)] (by kernel_rfl) (by kernel_rfl) ?_
  refine z_f ?_;refine z_l ?_;refine z_f ?_;refine z_l ?_;refine ZAB rfl rfl rfl rfl rfl (fun _=>A_tt e1 (ZAX rfl rfl)) ?_;refine z_m ?_;refine g_f ?_;refine g_l ?_;refine g_r ?_;refine g_r ?_;refine ZAF [0,1,2,3,4,5,8,9] (by kernel_rfl) rfl (ZAA rfl) rfl nb rfl (ZAZ rfl rfl rfl rfl rfl Bod.h hoB3 (fun h4 hE4=>?_));have k14:=hE4.get hg1;have k24:=hE4.get hg2;have k34:=hE4.get hg3
  first|refine ZAV rfl rfl rfl rfl ?_|refine ZAB rfl rfl rfl rfl rfl (fun _=>A_tt e2 (ZAW rfl rfl)) ?_
  refine z_p ?_;refine z_m ?_;refine g_f ?_;refine g_l ?_;refine g_r ?_;refine g_r ?_;refine ZAF [0,1,2,3,4,5,6,7,8,9,10,11,12,13,16,17] (by kernel_rfl) rfl (by refine o_l 7 ?_;refine o_f 6 ?_;exact ZAA rfl) rfl nb rfl (ZAZ rfl rfl rfl rfl rfl Bod.h (hoA3 hE4) (fun h5 hE5=>?_));have k15:=hE5.get k14;have k25:=hE5.get k24;have k35:=hE5.get k34
  first|refine ZAV rfl rfl rfl rfl ?_|refine ZAB rfl rfl rfl rfl rfl (fun _=>A_ff e3 (ZAW rfl rfl)) ?_
  refine z_p ?_;refine ZAF [0,1,2,3,4,5,6,7,8,9,10,11,12,13,14,15,16,17,18,19,20] (by kernel_rfl) rfl (by refine o_l 15 ?_;refine o_f 14 ?_;exact ZAA rfl) rfl nb rfl (ZAj rfl rfl (ZAO rfl) ?_);refine ZAM (ZAA rfl) nb' ?_;refine zy ?_;exact ZAC (ZAD rfl ⟨by rw[decide_eq_false (fun e=>e3 e.2.2)];rfl,hE.trans (hE4.trans hE5)⟩)
theorem ZF3 {tc:List Value}{t:ScT}{l:List ScS}{al:Option Addr}{cl:Nat}{h:Heap}(ht:ZBX h tc t)(hT:t.Fit)(hl:ZAN 6 ScSR h al l)(hlF:∀s∈l,s.Fit)(hL:Len l):Sv Tryz.prog 106 [.agg ⟨tc⟩,.slice al l.length cl] h (RetP fun v h'=>v=i64 (ZD5 t l)/\Ext h h'):=by
 have ht0:=ht;obtain⟨xl,cxl,at',ct,a1,c1,a2,c2,a3,c3,a4,c4,a5,c5,a6,c6,rfl,-⟩:=ht;refine ZAy fun hw=>?_;refine ZAH Tryz.func106 rfl (by rw[Tryz.ntmps106];rfl) ?_;show Wc Tryz.prog ⟨106,33,none⟩ _ _ _ _ _;refine zy ?_;refine ZAa rfl rfl rfl fun h1 hE hW1 hg1 hn1=>?_;generalize h.nx=b1 at *;clear hW1 hn1;refine zy ?_;refine ZAS rfl rfl rfl rfl rfl Bod.h rfl rfl (ZEu (ht0.ext hE) hT) fun h2 hE2=>?_;replace hg1:=hE2.get hg1;replace hE:=hE.trans hE2;clear hE2
 by_cases he:ZCU t=0
 rotate_left
 ·have e:=ZMm (l:=l) he
  rw[e];generalize ZCU t=n at *;refine zy ?_;refine ZAI rfl rfl rfl rfl (A_ff he (ZAX rfl rfl)) ?_;refine zy ?_;refine ZAT (fun (_:Unit) m ds h'=>ds=[]/\h2=h'/\AllK m [(1,.slice al l.length cl),(5,i64 n),(6,i64 0)]) (fun _=>0) () ⟨rfl,rfl,rfl,rfl,rfl,trivial⟩ ?_;rintro _ m ds h' ⟨rfl,rfl,hall⟩;refine Wc.le ?_ (Le.kn hall);refine zy ?_;refine ZAE rfl rfl rfl rfl (ZAW rfl rfl) (fun h3=>?_) (fun h3=>?_)
  ·refine zy ?_
   refine ZAI rfl rfl rfl rfl (A_ff he (ZAX rfl rfl)) ?_;refine zy ?_;exact ZAC (ZAD rfl ⟨rfl,hE⟩)
  ·refine zy ?_
   exact ZAC (ZAD rfl ⟨rfl,hE⟩)
 have hO:=ZOM he;have eL:=ZHZ (l:=l) he;rw[he,eL];refine zy ?_;refine ZAI rfl rfl rfl rfl (A_tt rfl (ZAX rfl rfl)) ?_;refine zy ?_;refine ZAE rfl rfl rfl rfl (ZB0 rfl rfl) (fun h3=>?_) (fun h3=>?_)
 ·rw[ZG2 (t:=t) (show 40<l.length by omega)]
  refine zy ?_;refine ZAT (fun (_:Unit) m ds h'=>ds=[]/\h2=h'/\AllK m [(1,.slice al l.length cl),(5,i64 3),(6,i64 0)]) (fun _=>0) () ⟨rfl,rfl,rfl,rfl,rfl,trivial⟩ ?_;rintro _ m ds h' ⟨rfl,rfl,hall⟩;refine Wc.le ?_ (Le.kn hall);refine zy ?_;refine ZAE rfl rfl rfl rfl (ZAW rfl rfl) (fun h4=>?_) (fun h4=>?_)
  ·refine zy ?_
   refine ZAI rfl rfl rfl rfl (A_ff (by decide) (ZAX rfl rfl)) ?_;refine zy ?_;exact ZAC (ZAD rfl ⟨rfl,hE⟩)
  ·refine zy ?_
   exact ZAC (ZAD rfl ⟨rfl,hE⟩)
 have hl40:¬40<l.length:=by omega
 refine zy ?_;refine ZAT (fun (s:Nat×Int) m ds h'=>ds=[]/\Ext h2 h'/\s.1<=l.length/\(s.2=0->∀j (hj:j<l.length),j<s.1->ZAQ t l[j]=0)/\(s.2≠0->s.2=ZBT t l)/\AllK m [(1,.slice al l.length cl),(2,.pointer (some ⟨b1,0,none⟩)),(5,i64 s.2),(6,i64 s.1)]) (fun s=>l.length-s.1) (0,0) ?_ ?_
 ·exact⟨rfl,Ext.refl _,Nat.zero_le _,(fun _ j _ hj=>absurd hj (Nat.not_lt_zero _)),(fun e=>absurd rfl e),rfl,rfl,rfl,rfl,trivial⟩
 rintro⟨k,e⟩ m ds h4 ⟨rfl,hE4,hk,hno,hbad,hall⟩;simp only at hk hno hbad hall;refine Wc.le ?_ (Le.kn hall);have k1:=hE4.get hg1;refine zy ?_;refine ZAE rfl rfl rfl rfl (ZAW rfl rfl) (fun h5=>?_) (fun h5=>?_);rotate_left
 ·have hk2:k=l.length:=by omega
  subst hk2;have:e=ZBT t l:=by
   by_cases e0:e=0
   ·rw[ZKH hl40 fun j hj=>hno e0 j hj hj];exact e0
   ·exact hbad e0
  refine zy ?_;exact ZAC (ZAD rfl ⟨by rw[<-this];rfl,hE.trans hE4⟩)
 have hk':k<l.length:=by simpa using h5
 refine zy ?_
 by_cases e0:e=0
 rotate_left
 ·refine ZAI rfl rfl rfl rfl (A_ff e0 (ZAX rfl rfl)) ?_
  refine zy ?_;exact ZAC (ZAD rfl ⟨by rw[<-hbad e0];rfl,hE.trans hE4⟩)
 refine ZAI rfl rfl rfl rfl (A_tt e0 (ZAX rfl rfl)) ?_;obtain⟨b,o,oa,rfl,row,hrow,hr⟩:=hl k hk';have hFx:=hlF _ (List.getElem_mem hk');have herr:=ZKc hl40 hk' (hno e0)
 have hnx:ZAQ t l[k]=0->∀j (hj:j<l.length),j<k+1->ZAQ t l[j]=0:=fun q j hj hlt=>by
  rcases Nat.lt_or_ge j k with g|g
  ·exact hno e0 j hj g
  ·have:j=k:=by omega
   subst this;exact q
 generalize hmk:l[k]=x at *;obtain rfl:=hr;have hrow4:=(hE.trans hE4).row hrow;have hsh:=ZKy (ht0.ext (hE.trans hE4)) hO hFx (rfl:ScSR h4 _ x);generalize ZAQ t x=n at *;refine zy ?_;refine ZAJ hmix [0,0,0,6,14,31,63] [0,1,2,3,4] (some 5) [([],(some 6)),([],none)] (by kernel_rfl) (by kernel_rfl) ?_;refine z_r ?_;refine z_m ?_;refine z_m ?_;refine z_i ?_;refine z_r ?_;refine ZAF [0,1,2,3,4] (by kernel_rfl) rfl (ZAA rfl) rfl nb rfl (ZAZ rfl rfl rfl rfl rfl Bod.h hsh (fun h6 hE6=>?_));have k16:=hE6.get k1;have hrow6:=hE6.row hrow4;refine ZAF [0,1,2,3,4,5] (by kernel_rfl) rfl (ZAA rfl) rfl nb rfl (ZAj rfl rfl (ZAO rfl) ?_)
 refine ZAM (ZAA rfl) nb' ?_;refine zy ?_;exact⟨(k+1,n),(by show l.length-(k+1)<l.length-k;omega),rfl,hE4.trans hE6,hk',hnx,(fun q=>(herr q).symm),rfl,rfl,rfl,rfl,trivial⟩
theorem ScS.ext' {a b:ScS}(h1:a.venue=b.venue)(h2:a.print=b.print)(h3:a.pack=b.pack)(h4:a.minute=b.minute)(h5:a.speed=b.speed)(h6:a.worth=b.worth):a=b:=by
 cases a;cases b;simp_all
instance:DecidableEq ScS:=fun a b=>decidable_of_iff (a.venue=b.venue/\a.print=b.print/\a.pack=b.pack/\a.minute=b.minute/\a.speed=b.speed/\a.worth=b.worth) ⟨fun ⟨h1,h2,h3,h4,h5,h6⟩=>ScS.ext' h1 h2 h3 h4 h5 h6,fun h=>by subst h;simp⟩
theorem ZMJ {cs:Array Value}{o:Nat}{v:Value}{W:World}(h:cs[o]?=some v):(part 3 cs o).run Tryz.prog W=.ok v W:=by
 unfold part;simp only[Sem.run_bind,Tryz.isAgg3,Result.andThen_ok,Bool.false_eq_true,if_false,h,Sem.run_pure]
theorem ZNg {d : Nat} {xs ys : Array Value} {f : Field} {fs : List Field} {a b : Int} {W : World} (hn : f.name ≠ "_") (ht : f.type = 3) (ha : xs[f.offset]? = some (i64 a)) (hb : ys[f.offset]? = some (i64 b)) :
  (Op.eqFields (d+1) xs ys (f::fs)).run Tryz.prog W=if a=b then (Op.eqFields (d+1) xs ys fs).run Tryz.prog W else .ok false W:=by
 rw[Op.eqFields,if_pos hn,ht];simp only[Sem.run_bind,ZMJ ha,ZMJ hb,Result.andThen_ok,run_equalIn_int W d 3 .i64 .i64 a b Tryz.underlying3]
 by_cases h:a=b
 ·subst h
  simp
 ·have:(a == b)=false:=by simpa using h
  simp[this,h]
end Go.Dw
