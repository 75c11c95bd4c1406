/- T2: contracts: subtitles: what is wrong, what cannot be read. -/
import Derived.Test.YtfgeelpahicelaaGreatDoorYG2
import Derived.Test.YtfgeelpahicelaaGreatDoorYG8
import Derived.Test.YtfgeelpahicelaaGreatDoorYG5
import Derived.Test.YtfgeelpahicelaaGreatDoorYG14
import Derived.Test.YtfgeelpahicelaaGreatDoorYG13
set_option linter.unusedVariables false
set_option linter.unusedSimpArgs false
namespace Go.Dw
open Go Go.Dx Go.Proofs
set_option maxRecDepth 100000
theorem ZBu {bef:Int}{x:Ttl}{xs:List Ttl}(h:(x.a<0\/199999<x.a)\/(x.b<0\/199999<x.b)):ZAj bef (x::xs)=7:=by
 show (if _ then _ else _)=_
 rw[if_pos h]
theorem ZBv {bef:Int}{x:Ttl}{xs:List Ttl}(h:¬((x.a<0\/199999<x.a)\/(x.b<0\/199999<x.b)))(h2:x.b<x.a\/x.a<=bef):ZAj bef (x::xs)=2:=by
 show (if _ then _ else _)=_
 rw[if_neg h,if_pos h2]
theorem ZCN {bef:Int}{x:Ttl}{xs:List Ttl}(h:¬((x.a<0\/199999<x.a)\/(x.b<0\/199999<x.b)))(h2:¬(x.b<x.a\/x.a<=bef))(h3:ZC2 x.text=false):ZAj bef (x::xs)=6:=by
 show (if _ then _ else _)=_
 rw[if_neg h,if_neg h2,if_pos h3]
theorem ZDC {bef:Int}{x:Ttl}{xs:List Ttl}(h:¬((x.a<0\/199999<x.a)\/(x.b<0\/199999<x.b)))(h2:¬(x.b<x.a\/x.a<=bef))(h3:ZC2 x.text=true):ZAj bef (x::xs)=ZAj x.b xs:=by
 show (if _ then _ else _)=_
 rw[if_neg h,if_neg h2,if_neg (by rw[h3];simp)]
theorem ZC8 {l:List Ttl}(h:40<l.length):ZAH l=3:=by unfold ZAH;rw[if_pos h]
theorem ZEP {l:List Ttl}(h:¬40<l.length):ZAH l=ZAj (-1) l:=by unfold ZAH;rw[if_neg h]
theorem ZJl {l:List Ttl}{al:Option Addr}{cl:Nat}{h:Heap}(hl:ZAU 3 TtlR h al l)(hF:∀x∈l,x.Fit)(hL:Len l)(hLib:LibAt h):Sv Tryz.prog 91 [.slice al l.length cl] h (RetP fun v h'=>v=i64 (ZAH l)/\Ext h h'):=by
 refine ZAJ Tryz.func91 rfl (by rw[Tryz.ntmps91];rfl) ?_;show Wc Tryz.prog ⟨91,44,none⟩ _ _ _ _ _;refine zy ?_;refine ZAl rfl rfl rfl rfl (ZB1 rfl rfl) (fun h1=>?_) (fun h1=>?_)
 ·refine zy ?_
  exact ZAD (ZAE rfl ⟨by rw[ZC8 (by omega)];rfl,Ext.refl _⟩)
 rw[ZEP (by omega)];refine zy ?_;refine ZBC (fun (s:Nat×Int) m ds h'=>ds=[]/\Ext h h'/\s.1<=l.length/\ZAj (-1) l=ZAj s.2 (l.drop s.1)/\AllK m [(3,i64 s.2),(9,.slice al l.length cl),(10,i64 l.length),(11,i64 s.1)]) (fun s=>l.length-s.1) (0,-1) ?_ ?_
 ·exact⟨rfl,Ext.refl _,Nat.zero_le _,by rw[List.drop_zero],rfl,rfl,rfl,rfl,trivial⟩
 rintro⟨k,bef⟩ m ds h2 ⟨rfl,hE2,hk,hgo,hall⟩;simp only at hk hgo hall;refine Wc.le ?_ (Le.kn hall);refine zy ?_;refine ZAl rfl rfl rfl rfl (ZCF rfl rfl) (fun h3=>?_) (fun h3=>?_);rotate_left
 ·have hk2:k=l.length:=by omega
  subst hk2;rw[hgo,List.drop_length];refine zy ?_;exact ZAD (ZAE rfl ⟨rfl,hE2⟩)
 have hk':k<l.length:=by simpa using h3
 obtain⟨b,o,oa,rfl,row,hrow,hr⟩:=hl k hk';have hFx:=hF _ (List.getElem_mem hk');rw[List.drop_eq_getElem_cons hk'] at hgo;rw[hgo];generalize l[k]=x at *;obtain rfl:=hr;replace hrow:=hE2.row hrow;refine zy ?_;refine ZAB rfl rfl rfl rfl (A_ix Und.h Tsz.h rfl rfl) ?_;refine zy ?_;refine ZDV rfl rfl Zr.h Tsz.h rfl (fun _=>rfl) rfl rfl rfl fun h4 hE4 hW4 hg4 hn4=>?_;have hE:=hE2.trans hE4;generalize h2.nx=b2 at *;clear hrow hE2 hE4 hn4;clear h2;refine zy ?_;refine ZCi rfl rfl rfl rfl rfl Bod.h rfl rfl (ZHT _ _ _ _) (fun h5=>?_) (fun h5=>?_)
 ·replace h5:=of_decide_eq_true h5
  refine zy ?_;exact ZAD (ZAE rfl ⟨by rw[ZBu (.inl h5)];rfl,hE⟩)
 replace h5:=of_decide_eq_false h5;refine zy ?_;refine ZCi rfl rfl rfl rfl rfl Bod.h rfl rfl (ZHT _ _ _ _) (fun h6=>?_) (fun h6=>?_)
 ·replace h6:=of_decide_eq_true h6
  refine zy ?_;exact ZAD (ZAE rfl ⟨by rw[ZBu (.inr h6)];rfl,hE⟩)
 replace h6:=of_decide_eq_false h6;have h56:¬((x.a<0\/199999<x.a)\/(x.b<0\/199999<x.b)):=fun e=>e.elim h5 h6;refine zy ?_;refine ZAl rfl rfl rfl rfl (ZB1 rfl rfl) (fun h7=>?_) (fun h7=>?_)
 ·refine zy ?_
  exact ZAD (ZAE rfl ⟨by rw[ZBv h56 (.inl h7)];rfl,hE⟩)
 refine zy ?_;refine ZAl rfl rfl rfl rfl (ZKn rfl rfl) (fun h8=>?_) (fun h8=>?_)
 ·refine zy ?_
  exact ZAD (ZAE rfl ⟨by rw[ZBv h56 (.inr h8)];rfl,hE⟩)
 have h78:¬(x.b<x.a\/x.a<=bef):=fun e=>e.elim h7 h8;refine zy ?_;refine ZMS rfl rfl rfl rfl rfl Bod.h rfl rfl (ZJi hFx.3 (hLib.ext hE)) (fun h9 h10 hE10=>?_) (fun h9 h10 hE10=>?_)
 ·rw[ZDC h56 h78 h9]
  replace hg4:=hE10.get hg4;refine zy ?_;exact⟨(k+1,x.b),(by show l.length-(k+1)<l.length-k;omega),rfl,hE.trans hE10,hk',rfl,rfl,rfl,rfl,rfl,trivial⟩
 ·refine zy ?_
  exact ZAD (ZAE rfl ⟨by rw[ZCN h56 h78 h9];rfl,hE.trans hE10⟩)
def befT (l:List Ttl):Nat->Int
 | 0=>-1
 | k+1=>match l[k]? with|some x=>x.b|none=>-1
theorem ZG2 {l:List Ttl}{k:Nat}(hk:k<l.length):befT l (k+1)=l[k].b:=by
 show (match l[k]? with|some x=>x.b|none=>-1)=_
 rw[List.getElem?_eq_getElem hk]
theorem ZEH {l:List Ttl}{al:Option Addr}{cl:Nat}{h:Heap}(hl:ZAU 3 TtlR h al l)(hF:∀x∈l,x.Fit)(hL:Len l):Sv Tryz.prog 93 [.slice al l.length cl] h (RetP fun v h'=>v=i64 (ZAH l)/\h'=h):=by
 refine ZAJ Tryz.func93 rfl (by rw[Tryz.ntmps93];rfl) ?_;show Wc Tryz.prog ⟨93,65,none⟩ _ _ _ _ _;refine zy ?_;refine ZAl rfl rfl rfl rfl (ZB1 rfl rfl) (fun h1=>?_) (fun h1=>?_)
 ·refine zy ?_
  exact ZAD (ZAE rfl ⟨by rw[ZC8 (by omega)];rfl,rfl⟩)
 rw[ZEP (by omega)];refine zy ?_;refine ZBC (fun (k:Nat) m ds h'=>ds=[]/\h=h'/\k<=l.length/\ZAj (-1) l=ZAj (befT l k) (l.drop k)/\AllK m [(0,.slice al l.length cl),(3,i64 k)]) (fun k=>l.length-k) 0 ?_ ?_
 ·exact⟨rfl,rfl,Nat.zero_le _,by rw[List.drop_zero];rfl,rfl,rfl,trivial⟩
 rintro k m ds h2 ⟨rfl,rfl,hk,hgo,hall⟩;refine Wc.le ?_ (Le.kn hall);refine zy ?_;refine ZAl rfl rfl rfl rfl (ZCF rfl rfl) (fun h3=>?_) (fun h3=>?_);rotate_left
 ·have hk2:k=l.length:=by omega
  subst hk2;rw[hgo,List.drop_length];refine zy ?_;exact ZAD (ZAE rfl ⟨rfl,rfl⟩)
 have hk':k<l.length:=by simpa using h3
 obtain⟨b,o,oa,rfl,row,hrow,hr⟩:=hl k hk';have hFx:=hF _ (List.getElem_mem hk');rw[List.drop_eq_getElem_cons hk'] at hgo;rw[hgo];have hbs:=ZG2 hk'
 have hprev:0<k->∃y:Int,ZAX h b (o+(k-1)*3+1)=some (i64 y)/\befT l k=y:=fun h0=>by
  obtain⟨b',o',oa',e,row',hrow',hr'⟩:=hl (k-1) (by omega);cases e;obtain rfl:=hr';refine⟨l[k-1].b,ZAw hrow' rfl,?_⟩;have:=ZG2 (l:=l) (k:=k-1) (by omega)
  rwa [show k-1+1=k by omega] at this
 generalize l[k]=x at *;obtain rfl:=hr;have z0:ZAX h b (o+k*3+0)=some (i64 x.a):=ZAw hrow rfl;have z1:ZAX h b (o+k*3+1)=some (i64 x.b):=ZAw hrow rfl;have z2:ZAX h b (o+k*3+2)=some (str x.text):=ZAw hrow rfl;refine zy ?_;refine ZAB rfl rfl rfl rfl (A_ix Und.h Tsz.h rfl rfl) ?_;refine zy ?_;refine ZCi rfl rfl rfl rfl rfl Bod.h rfl rfl (ZLz _ _ _ _) (fun h5=>?_) (fun h5=>?_);rotate_left
 ·replace h5:=of_decide_eq_false h5
  refine zy ?_;exact ZAD (ZAE rfl ⟨by rw[ZBu (by omega)];rfl,rfl⟩)
 replace h5:=of_decide_eq_true h5;refine zy ?_;refine ZAB rfl rfl rfl rfl (A_ix Und.h Tsz.h rfl rfl) ?_;refine zy ?_;refine ZCi rfl rfl rfl rfl rfl Bod.h rfl rfl (ZLz _ _ _ _) (fun h6=>?_) (fun h6=>?_);rotate_left
 ·replace h6:=of_decide_eq_false h6
  refine zy ?_;exact ZAD (ZAE rfl ⟨by rw[ZBu (by omega)];rfl,rfl⟩)
 replace h6:=of_decide_eq_true h6;have h56:¬((x.a<0\/199999<x.a)\/(x.b<0\/199999<x.b)):=by omega
 refine zy ?_
 by_cases h7:x.b<x.a
 ·refine ZBK hmix [0,0,3,7,15,0,0,96,224,480,1023,2047,4095,8191,16383,32767,32767,131071,262143,524287,32767,32767,2129919,7372799,15761407,32538623,67108863,134217727,268435455] [0,1,2,3,4,5,6,7,8,9,10,11,12,13,14,15,16,17,18,19,20,21,22,23,24,25,26,27,28] none [] (by kernel_rfl) (by kernel_rfl) ?_
  refine z_m ?_;refine z_m ?_;refine z_i ?_;refine z_f ?_;refine z_l ?_;refine z_m ?_;refine z_m ?_;refine z_i ?_;refine z_f ?_;refine z_l ?_;refine ZAF rfl rfl rfl rfl rfl (fun _=>A_tt h7 (ZB1 rfl rfl)) ?_;refine z_m ?_;refine g_m ?_;refine z_o ?_;refine g_m ?_;refine g_m ?_;refine g_m ?_;refine z_o ?_;refine g_f ?_;refine g_l ?_;refine g_m ?_;refine g_m ?_;refine g_u ?_;refine z_o ?_;refine g_f ?_;refine g_l ?_;refine z_o ?_;refine g_p ?_;refine z_p ?_;refine ZB8 (ZAL rfl) nb' ?_;refine zy ?_;exact ZAD (ZAE rfl ⟨by rw[ZBv h56 (.inl h7)];rfl,rfl⟩)
 by_cases h0:0<k
 ·obtain⟨y,zp,hy⟩:=hprev h0
  rw[hy]
  by_cases h8:x.a<=y
  ·refine ZBK hmix [0,0,3,7,15,0,0,96,224,480,1023,2047,4095,8191,16383,32767,32767,131071,262143,524287,32767,32767,2129919,7372799,15761407,32538623,67108863,134217727,268435455] [0,1,2,3,4,5,6,7,8,9,10,11,12,13,14,15,16,17,18,19,20,21,22,23,24,25,26,27,28] none [] (by kernel_rfl) (by kernel_rfl) ?_
   refine z_m ?_;refine z_m ?_;refine z_i ?_;refine z_f ?_;refine z_l ?_;refine z_m ?_;refine z_m ?_;refine z_i ?_;refine z_f ?_;refine z_l ?_;refine ZAF rfl rfl rfl rfl rfl (fun _=>A_ff h7 (ZB1 rfl rfl)) ?_;refine z_m ?_;refine g_m ?_
   first|refine ZBx rfl rfl rfl rfl ?_|refine ZAF rfl rfl rfl rfl rfl (fun _=>A_tt (by omega) (ZB1 rfl rfl)) ?_
   refine g_m ?_;refine g_m ?_;refine g_m ?_;refine g_i ?_;refine g_f ?_;refine g_l ?_;refine g_m ?_;refine g_m ?_;refine g_u ?_
   first|refine ZBx rfl rfl rfl rfl ?_|refine ZAF rfl rfl rfl rfl rfl (fun _=>ZAQ (k:=k-1) Und.h Tsz.h rfl rfl (by omega) (by omega)) ?_
   refine g_f ?_;refine g_l ?_
   first|refine ZBx rfl rfl rfl rfl ?_|refine ZAF rfl rfl rfl rfl rfl (fun _=>A_tt h8 (ZKn rfl rfl)) ?_
   refine g_p ?_;refine z_p ?_;refine ZB8 (ZAL rfl) nb' ?_;refine zy ?_;exact ZAD (ZAE rfl ⟨by rw[ZBv h56 (.inr h8)];rfl,rfl⟩)
  have h78:¬(x.b<x.a\/x.a<=y):=fun e=>e.elim h7 h8;refine ZBK hmix [0,0,3,7,15,0,0,96,224,480,1023,2047,4095,8191,16383,32767,32767,131071,262143,524287,32767,32767,2129919,7372799,15761407,32538623,67108863,134217727,268435455] [0,1,2,3,4,5,6,7,8,9,10,11,12,13,14,15,16,17,18,19,20,21,22,23,24,25,26,27,28] none [] (by kernel_rfl) (by kernel_rfl) ?_;refine z_m ?_;refine z_m ?_;refine z_i ?_;refine z_f ?_;refine z_l ?_;refine z_m ?_;refine z_m ?_;refine z_i ?_;refine z_f ?_;refine z_l ?_;refine ZAF rfl rfl rfl rfl rfl (fun _=>A_ff h7 (ZB1 rfl rfl)) ?_;refine z_m ?_;refine g_m ?_
  first|refine ZBx rfl rfl rfl rfl ?_|refine ZAF rfl rfl rfl rfl rfl (fun _=>A_tt (by omega) (ZB1 rfl rfl)) ?_
  refine g_m ?_;refine g_m ?_;refine g_m ?_;refine g_i ?_;refine g_f ?_;refine g_l ?_;refine g_m ?_;refine g_m ?_;refine g_u ?_
  first|refine ZBx rfl rfl rfl rfl ?_|refine ZAF rfl rfl rfl rfl rfl (fun _=>ZAQ (k:=k-1) Und.h Tsz.h rfl rfl (by omega) (by omega)) ?_
  refine g_f ?_;refine g_l ?_
  first|refine ZBx rfl rfl rfl rfl ?_|refine ZAF rfl rfl rfl rfl rfl (fun _=>A_ff h8 (ZKn rfl rfl)) ?_
  refine g_p ?_;refine z_p ?_;refine ZB8 (ZAL rfl) nb' ?_;refine zy ?_;refine ZAB rfl rfl rfl rfl (A_ix Und.h Tsz.h rfl rfl) ?_;refine zy ?_;refine ZCi rfl rfl rfl rfl rfl Bod.h rfl rfl (ZF1 hFx.3) (fun h9=>?_) (fun h9=>?_)
  ·rw[ZDC h56 h78 h9,<-hbs]
   refine zy ?_;exact⟨k+1,(by show l.length-(k+1)<l.length-k;omega),rfl,rfl,hk',rfl,rfl,rfl,trivial⟩
  ·refine zy ?_
   exact ZAD (ZAE rfl ⟨by rw[ZCN h56 h78 h9];rfl,rfl⟩)
 ·obtain rfl:k=0:=by omega
  have h78:¬(x.b<x.a\/x.a<=befT l 0):=by
   show ¬(x.b<x.a\/x.a <= -1)
   omega
  refine ZBK hmix [0,0,3,7,15,0,0,96,224,480,1023,2047,4095,8191,16383,32767,32767,131071,262143,524287,32767,32767,2129919,7372799,15761407,32538623,67108863,134217727,268435455] [0,1,2,3,4,5,6,7,8,9,10,11,12,13,14,15,16,17,18,19,20,21,22,23,24,25,26,27,28] none [] (by kernel_rfl) (by kernel_rfl) ?_;refine z_m ?_;refine z_m ?_;refine z_i ?_;refine z_f ?_;refine z_l ?_;refine z_m ?_;refine z_m ?_;refine z_i ?_;refine z_f ?_;refine z_l ?_;refine ZAF rfl rfl rfl rfl rfl (fun _=>A_ff h7 (ZB1 rfl rfl)) ?_;refine z_m ?_;refine g_m ?_
  first|refine ZBx rfl rfl rfl rfl ?_|refine ZAF rfl rfl rfl rfl rfl (fun _=>A_ff (by decide) (ZB1 rfl rfl)) ?_
  refine g_m ?_;refine g_m ?_;refine g_m ?_;refine z_o ?_;refine g_f ?_;refine g_l ?_;refine g_m ?_;refine g_m ?_;refine g_u ?_;refine z_o ?_;refine g_f ?_;refine g_l ?_;refine z_o ?_;refine g_p ?_;refine z_p ?_;refine ZB8 (ZAL rfl) nb' ?_;refine zy ?_;refine ZAB rfl rfl rfl rfl (A_ix Und.h Tsz.h rfl rfl) ?_;refine zy ?_;refine ZCi rfl rfl rfl rfl rfl Bod.h rfl rfl (ZF1 hFx.3) (fun h9=>?_) (fun h9=>?_)
  ·rw[ZDC h56 h78 h9,<-hbs]
   refine zy ?_;exact⟨1,(by show l.length-1<l.length-0;omega),rfl,rfl,hk',rfl,rfl,rfl,trivial⟩
  ·refine zy ?_
   exact ZAD (ZAE rfl ⟨by rw[ZCN h56 h78 h9];rfl,rfl⟩)
theorem ZBk {l:List Ttl}(h:ZAH l=0):l.length<=40/\(∀x∈l,0<=x.a/\x.a<=x.b/\x.b<=199999/\ZC2 x.text=true)/\l.Pairwise fun x y=>x.b<y.a:=by
 unfold ZAH at h
 split at h
 ·cases h
 obtain⟨h1,h2⟩:=ZEg h;exact⟨by omega,fun x hx=>(h1 x hx).2,h2⟩
theorem ZCw {s:List UInt8}(h:ZC2 s=true):1<=s.length/\s.length<=80:=by
 rw[ZIv] at h;simp only[Bool.and_eq_true,decide_eq_true_eq] at h;exact h.1.1
def ZOc (l:List Ttl)(speed rate:Int)(k:Nat):List Nat:=(List.range k).filter fun i=>match l[i]? with|some x=>ZK5 speed rate x|none=>false
abbrev natV (n:Nat):Value:=i64 (n:Int)
def ZMt (l:List Ttl)(speed rate:Int):Int:=if ZAH l≠0 then ZAH l else if (speed<1\/60<speed)\/(rate<1\/60<rate) then 7 else 0
def UnR (l:List Ttl)(speed rate:Int)(h:Heap)(v:Value)(h':Heap):Prop:=Ext h h'/\((¬ZMt l speed rate=0/\v=.tuple ⟨[.slice none 0 0,i64 (ZMt l speed rate)]⟩)\/(ZMt l speed rate=0/\∃va,v=.tuple ⟨[va,i64 0]⟩/\ZAG h h' va 3 1 ((ZJ9 l speed rate).map natV) (ZJ9 l speed rate).length))
def ttVs (x:Ttl):List Value:=[i64 x.a,i64 x.b,str x.text]
theorem ZDd {h0 h:Heap}{v:Value}{P:List Ttl}(hF:ZAG h0 h v 75 3 (P.flatMap ttVs) P.length):∃a c,v=.slice a P.length c/\ZAU 3 TtlR h a P:=by
 rcases hF with ⟨rfl,_,h0⟩|⟨b,sp,op,rfl,hg,_⟩
 ·rw[h0]
  exact⟨none,0,rfl,fun i hi=>absurd hi (by omega)⟩
 ·refine⟨some ⟨b,0,sp⟩,P.length,rfl,fun i hi=>⟨b,0,sp,rfl,_,ZAx hg ?_,rfl⟩⟩
  rw[Nat.zero_add];exact ZIt (f:=ttVs) (k:=3) hi fun _ _=>rfl
def ZK4 (n:Int)(cs:List Cut)(l:List Ttl):Int:=if (cutS n cs).2≠0 then (cutS n cs).2 else if ZAH l≠0 then ZAH l else if (l.any fun x=>decide (n<=x.b))=true then 7 else 0
def curT (cs:List Cut)(x:Ttl)(f:Nat):List Ttl:=if cntC cs x.a.toNat<cntC cs f then [⟨(cntC cs x.a.toNat:Nat),(cntC cs f:Nat)-1,x.text⟩] else []
def RetR (n:Int)(cs:List Cut)(l:List Ttl)(h:Heap)(v:Value)(h':Heap):Prop:=Ext h h'/\((¬ZK4 n cs l=0/\v=.tuple ⟨[.slice none 0 0,i64 (ZK4 n cs l)]⟩)\/(ZK4 n cs l=0/\∃va,v=.tuple ⟨[va,i64 0]⟩/\ZAG h h' va 75 3 ((ZKG cs l).flatMap ttVs) (ZKG cs l).length))
def rowT (cs:List Cut)(x:Ttl)(f:Nat):List Value:=if cntC cs x.a.toNat<cntC cs f then [i64 (cntC cs x.a.toNat:Nat),i64 ((cntC cs f:Nat)-1),str x.text] else [i64 x.a,i64 x.b,str x.text]
theorem ZI3 {cs:Array Value}{o:Nat}{v:Value}{W:World}(h:cs[o]?=some v):(part 9 cs o).run Tryz.prog W=.ok v W:=by
 unfold part;simp only[Sem.run_bind,Tryz.isAgg9,Result.andThen_ok,Bool.false_eq_true,if_false,h,Sem.run_pure]
theorem ZMx {d : Nat} {xs ys : Array Value} {f : Field} {fs : List Field} {a b : List UInt8} {W : World} (hn : f.name ≠ "_") (ht : f.type = 9) (ha : xs[f.offset]? = some (str a)) (hb : ys[f.offset]? = some (str b)) :
  (Op.eqFields (d+1) xs ys (f::fs)).run Tryz.prog W=if a=b then (Op.eqFields (d+1) xs ys fs).run Tryz.prog W else .ok false W:=by
 rw[Op.eqFields,if_pos hn,ht];simp only[Sem.run_bind,ZI3 ha,ZI3 hb,Result.andThen_ok,run_equalIn_string W d 9 ⟨⟨a⟩⟩ ⟨⟨b⟩⟩ Tryz.underlying9];rw[<-beq_toListBytes,ZLU]
 by_cases h:a=b
 ·subst h
  simp
 ·simp[h]
theorem Ttl.ext' {a b:Ttl}(h1:a.a=b.a)(h2:a.b=b.b)(h3:a.text=b.text):a=b:=by cases a;cases b;simp_all
instance:DecidableEq Ttl:=fun a b=>decidable_of_iff (a.a=b.a/\a.b=b.b/\a.text=b.text) ⟨fun ⟨h1,h2,h3⟩=>Ttl.ext' h1 h2 h3,fun h=>by subst h;simp⟩
theorem ZKl {x y:Operand}(a b:Ttl)(W:World):(do eqGuard .neq 75 x y (.agg ⟨ttVs a⟩) (.agg ⟨ttVs b⟩);binOp .neq 75 (.agg ⟨ttVs a⟩) (.agg ⟨ttVs b⟩):Sem Value).run Tryz.prog W=.ok (.bool (decide (¬a=b))) W:=by
 simp only[Sem.run_bind];rw[run_eqGuard_agg W _ _ _ _ _ _ (by kernel_rfl)];simp only[Result.andThen_ok];rw[run_neq_struct,run_equalIn_agg W _ _ _ _ (by unfold Program.fieldsOf;rw[Tryz.underlying75]) (by kernel_rfl)];rw[show (Tryz.prog.fieldsOf 75)=_ by unfold Program.fieldsOf;rw[Tryz.underlying75]];simp only;rw[ZKQ (a:=a.a) (b:=b.a) (by decide) rfl rfl rfl,ZKQ (a:=a.b) (b:=b.b) (by decide) rfl rfl rfl,ZMx (a:=a.text) (b:=b.text) (by decide) rfl rfl rfl];have hnil:(Op.eqFields 9999 (⟨ttVs a⟩:Array Value) ⟨ttVs b⟩ []).run Tryz.prog W=.ok true W:=rfl;rw[hnil]
 by_cases e1:a.a=b.a
 ·by_cases e2:a.b=b.b
  ·by_cases e3:a.text=b.text
   ·rw[if_pos e1,if_pos e2,if_pos e3]
    obtain rfl:=Ttl.ext' e1 e2 e3;simp
   ·rw[if_pos e1,if_pos e2,if_neg e3,decide_eq_true (show ¬a=b from fun e=>e3 (by rw[e]))];rfl
  ·rw[if_pos e1,if_neg e2,decide_eq_true (show ¬a=b from fun e=>e2 (by rw[e]))];rfl
 ·rw[if_neg e1,decide_eq_true (show ¬a=b from fun e=>e1 (by rw[e]))];rfl
theorem ZKf {m:Mem}{h:Heap}{d:Option Tmp}{ty:TypeId}{pos:String}{af:Array Edge}{gu:Option (Nat×Bool)}{tz:TypeId}{x y:Operand}{a b:Ttl}(hx:opk h m x=some (.agg ⟨ttVs a⟩))(hy:opk h m y=some (.agg ⟨ttVs b⟩)):Aop Tryz.prog ⟨d,.binOp .neq 75 x y tz,ty,pos,af,gu⟩ m h (.bool (decide (¬a=b))) h :=
 ZBy hx hy rfl rfl rfl (ZKl a b)
theorem ZC5 {a b:Option Addr}{ca cb:Nat}{l l':List Ttl}{h:Heap}(hl:ZAU 3 TtlR h a l)(hl':ZAU 3 TtlR h b l')(hn:Len l)(hn':Len l'):Sv Tryz.prog 30 [.slice a l.length ca,.slice b l'.length cb] h (RetP fun v h'=>v=.bool (decide (l=l'))/\h'=h):=by
 refine ZAJ Tryz.func30 rfl (by rw[Tryz.ntmps30];rfl) ?_;show Wc Tryz.prog ⟨30,26,none⟩ _ _ _ _ _;refine zy ?_;refine ZAl rfl rfl rfl rfl (ZFT rfl rfl) (fun h1=>?_) (fun h1=>?_)
 ·refine zy ?_
  exact ZAD (ZAE rfl ⟨by rw[decide_eq_false (fun e=>h1 (by rw[e]))];rfl,rfl⟩)
 have hll:l.length=l'.length:=by have:=Decidable.not_not.1 h1;omega
 refine zy ?_;refine ZBC (fun (k:Nat) m ds h'=>ds=[]/\h=h'/\k<=l.length/\(∀j (hj:j<l.length),j<k->l[j]=l'[j]'(by omega))/\AllK m [(0,.slice a l.length ca),(1,.slice b l'.length cb),(5,i64 k)]) (fun k=>l.length-k) 0 ?_ ?_
 ·exact⟨rfl,rfl,Nat.zero_le _,(fun _ _ hj=>by omega),rfl,rfl,rfl,trivial⟩
 rintro k m ds h' ⟨rfl,rfl,hk,hno,hall⟩;refine Wc.le ?_ (Le.kn hall);refine zy ?_;refine ZAl rfl rfl rfl rfl (ZCF rfl rfl) (fun h3=>?_) (fun h3=>?_)
 ·have hk':k<l.length:=by simpa using h3
  have hne:∀(q:k<l'.length),¬l[k]=l'[k]->¬l=l':=fun q e e2=>e (by subst e2;rfl)
  have hnx:∀(q:k<l'.length),l[k]=l'[k]->∀j (hj:j<l.length),j<k+1->l[j]=l'[j]'(by omega):=fun q e j hj hlt=>by
   rcases Nat.lt_or_ge j k with g|g
   ·exact hno j hj g
   ·have:j=k:=by omega
    subst this;exact e
  obtain⟨b1,o1,oa1,rfl,r1,hc1,hr1⟩:=hl k hk';obtain⟨b2,o2,oa2,rfl,r2,hc2,hr2⟩:=hl' k (by omega);replace hne:=hne (by omega);replace hnx:=hnx (by omega);generalize l[k]=x at *;generalize l'[k]'(by omega)=y at *;obtain rfl:=hr1;obtain rfl:=hr2;refine zy ?_
  by_cases h4:x=y
  ·refine ZBK hmix [0,0,3,7,0,0,48,112,255] [0,1,2,3,4,5,6,7,8] none [] (by kernel_rfl) (by kernel_rfl) ?_
   refine z_m ?_;refine z_m ?_;refine z_i ?_;refine z_r ?_;refine z_m ?_;refine z_m ?_;refine z_i ?_;refine z_r ?_;refine ZAF rfl rfl rfl rfl rfl (fun _=>A_ff (fun e=>e h4) (ZKf (a:=x) (b:=y) rfl rfl)) ?_;refine ZB8 (ZAL rfl) nb' ?_;refine zy ?_;exact⟨k+1,(by show l.length-(k+1)<l.length-k;omega),rfl,rfl,hk',hnx h4,rfl,rfl,rfl,trivial⟩
  ·refine ZBK hmix [0,0,3,7,0,0,48,112,255] [0,1,2,3,4,5,6,7,8] none [] (by kernel_rfl) (by kernel_rfl) ?_
   refine z_m ?_;refine z_m ?_;refine z_i ?_;refine z_r ?_;refine z_m ?_;refine z_m ?_;refine z_i ?_;refine z_r ?_;refine ZAF rfl rfl rfl rfl rfl (fun _=>A_tt h4 (ZKf (a:=x) (b:=y) rfl rfl)) ?_;refine ZB8 (ZAL rfl) nb' ?_;refine zy ?_;exact ZAD (ZAE rfl ⟨by rw[decide_eq_false (hne h4)];rfl,rfl⟩)
 have he:l=l':=List.ext_getElem hll fun i h1 h2=>hno i h1 (by omega);refine zy ?_;exact ZAD (ZAE rfl ⟨by rw[decide_eq_true he];rfl,rfl⟩)
end Go.Dw
