/- A1: contracts of small functions of chapter 12: comparing strings, numbers and records; keys. -/
import Derived.Lib.TrimUEq
import Derived.Test.YtdfadhkbhbbabaaGreatDoorAG2
import Derived.Test.YtdfadhkbhbbabaaGreatDoorAG6
import Derived.Test.YtdfadhkbhbbabaaGreatDoorAG4
import Derived.Test.YtdfadhkbhbbabaaGreatDoorAG7
import Derived.Test.YtdfadhkbhbbabaaGreatDoorAG8
set_option linter.unusedVariables false
set_option linter.unusedSimpArgs false
namespace Go.Dw
open Go Go.Dx Go.Proofs
set_option maxRecDepth 100000
abbrev rowW (x:WkR):List Value:=[str x.archive,i64 x.number,i64 x.day,i64 x.kind,str x.a,str x.b]
theorem ZGI (a lo hi:Int)(h:Heap):Sv Tryz.prog 36 [i64 a,i64 lo,i64 hi] h (RetP fun v h'=>v=.bool (decide (a<lo\/hi<a))/\h'=h):=by
 refine ZAG Tryz.func36 rfl (by rw[Tryz.ntmps36];rfl) ?_;show Wc Tryz.prog ⟨36,15,none⟩ _ _ _ _ _;refine zy ?_;refine zC (ZAU rfl rfl) (fun h1=>?_) (fun h1=>?_)
 ·refine zy ?_
  exact ZAC (ZAD rfl ⟨by rw[decide_eq_true (.inl h1)];rfl,rfl⟩)
 ·refine zy ?_
  refine zC (ZA4 rfl rfl) (fun h2=>?_) (fun h2=>?_)
  ·refine zy ?_
   exact ZAC (ZAD rfl ⟨by rw[decide_eq_true (.inr h2)];rfl,rfl⟩)
  ·refine zy ?_
   exact ZAC (ZAD rfl ⟨by rw[decide_eq_false (not_or.2 ⟨h1,h2⟩)];rfl,rfl⟩)
theorem ZK5 (a:List UInt8)(h:Heap):Sv Tryz.prog 60 [str a] h (RetP fun v h'=>v=.bool false/\h'=h):=by
 refine ZAG Tryz.func60 rfl (by rw[Tryz.ntmps60];rfl) ?_;show Wc Tryz.prog ⟨60,6,none⟩ _ _ _ _ _;refine zy ?_;refine zD (A_ff (fun e=>e rfl) (ZA6 rfl rfl)) ?_;exact ZAC (ZAD rfl ⟨rfl,rfl⟩)
theorem ZLL (a:Int)(h:Heap):Sv Tryz.prog 138 [i64 a] h (RetP fun v h'=>v=.bool false/\h'=h):=by
 refine ZAG Tryz.func138 rfl (by rw[Tryz.ntmps138];rfl) ?_;show Wc Tryz.prog ⟨138,6,none⟩ _ _ _ _ _;refine zy ?_;refine zD (A_ff (fun e=>e rfl) (ZAh rfl rfl)) ?_;exact ZAC (ZAD rfl ⟨rfl,rfl⟩)
theorem ZFi (a b:List UInt8)(h:Heap):Sv Tryz.prog 35 [str a,str b] h (RetP fun v h'=>v=i64 (cmpI ltB a b)/\h'=h):=by
 refine ZAG Tryz.func35 rfl (by rw[Tryz.ntmps35];rfl) ?_;show Wc Tryz.prog ⟨35,20,none⟩ _ _ _ _ _;refine zy ?_;refine zV (ZK5 _ _) ?_;refine zV (ZK5 _ _) ?_;refine zC (ZSZ rfl rfl) (fun h1=>?_) (fun h1=>?_)
 ·refine zy ?_
  exact ZAC (ZAD rfl ⟨by rw[cmpI,if_pos h1];rfl,rfl⟩)
 refine zy ?_;refine zC (ZRb rfl rfl) (fun h2=>?_) (fun h2=>?_)
 ·refine zy ?_
  exact ZAC (ZAD rfl ⟨by rw[cmpI,if_neg h1,if_pos h2];rfl,rfl⟩)
 refine zy ?_;exact ZAC (ZAD rfl ⟨by rw[cmpI,if_neg h1,if_neg h2];rfl,rfl⟩)
theorem ZHM (a b:Int)(h:Heap):Sv Tryz.prog 95 [i64 a,i64 b] h (RetP fun v h'=>v=i64 (cmpI ltI a b)/\h'=h):=by
 refine ZAG Tryz.func95 rfl (by rw[Tryz.ntmps95];rfl) ?_;show Wc Tryz.prog ⟨95,20,none⟩ _ _ _ _ _;refine zy ?_;refine zV (ZLL _ _) ?_;refine zV (ZLL _ _) ?_;refine zC (ZAU rfl rfl) (fun h1=>?_) (fun h1=>?_)
 ·refine zy ?_
  exact ZAC (ZAD rfl ⟨by rw[cmpI,if_pos h1];rfl,rfl⟩)
 refine zy ?_;refine zC (ZA4 rfl rfl) (fun h2=>?_) (fun h2=>?_)
 ·refine zy ?_
  exact ZAC (ZAD rfl ⟨by rw[cmpI,if_neg h1,if_pos h2];rfl,rfl⟩)
 refine zy ?_;exact ZAC (ZAD rfl ⟨by rw[cmpI,if_neg h1,if_neg h2];rfl,rfl⟩)
theorem ZKe {l:List Int}{k:Nat}(hk:k<l.length)(h:ZCK l=ZCK (l.drop k)):(l[k]≠0->ZCK l=l[k])/\(l[k]=0->ZCK l=ZCK (l.drop (k+1))):=by
 rw[List.drop_eq_getElem_cons hk,ZCK] at h;exact⟨fun g=>by rw[h,if_pos g],fun g=>by rw[h,if_neg (by omega)]⟩
theorem ZR9 {a:Option Addr}{cap:Nat}{l:List Int}{h:Heap}(hI:ZPC h a l)(hlen:l.length<9223372036854775807):Sv Tryz.prog 34 [.slice a l.length cap] h (RetP fun v h'=>v=i64 (ZCK l)/\h'=h):=by
 refine ZAG Tryz.func34 rfl (by rw[Tryz.ntmps34];rfl) ?_;show Wc Tryz.prog ⟨34,15,none⟩ _ _ _ _ _;refine zy ?_;refine ZAN (fun (k:Nat) m ds h'=>ds=[]/\h=h'/\k<=l.length/\ZCK l=ZCK (l.drop k)/\AllK m [(5,.slice a l.length cap),(6,i64 l.length),(7,i64 (k:Nat))]) (fun k=>l.length-k) 0 ?_ ?_
 ·exact⟨rfl,rfl,Nat.zero_le _,rfl,rfl,rfl,rfl,trivial⟩
 rintro k m ds h' ⟨rfl,rfl,hk,hf,hall⟩;refine Wc.le ?_ (Le.kn hall);clear hall;refine zy ?_;refine zC (ZAU rfl rfl) (fun h1=>?_) (fun h1=>?_)
 ·have hk':k<l.length:=by omega
  obtain⟨b,o,oa,rfl,hcell⟩:=hI k hk';obtain⟨f1,f2⟩:=ZKe hk' hf;refine zy ?_;refine zD (A_ix Und.h Tsz.h rfl rfl) ?_;refine zC (ZAh rfl rfl) (fun h2=>?_) (fun h2=>?_)
  ·refine zy ?_
   exact ZAC (ZAD rfl ⟨by rw[f1 h2];rfl,rfl⟩)
  ·refine zy ?_
   exact⟨k+1,(by show l.length-(k+1)<l.length-k;omega),rfl,rfl,hk',f2 (Classical.not_not.1 h2),rfl,rfl,rfl,trivial⟩
 ·refine zy ?_
  have:k=l.length:=by omega
  subst this;exact ZAC (ZAD rfl ⟨by rw[hf,List.drop_length];rfl,rfl⟩)
theorem ZRz {α:Type}{enc:α->Value}{h:Heap}{t:TypeId}{p:Bool}{l:List α}{cs:List Value}(hc:cs=l.map enc):ZAi enc (h.add (.cells cs t p)) (some ⟨h.nx,0,none⟩) l:=by
 subst hc;intro i hi;refine⟨_,_,_,rfl,ZAb Heap.get_add_same ?_⟩;simp[ZAv,hi]
set_option maxHeartbeats 4000000 in
theorem ZOp (x y:WkR)(h:Heap):Sv Tryz.prog 53 [.agg ⟨rowW x⟩,.agg ⟨rowW y⟩] h (RetP fun v h'=>v=i64 (cmpI ltW x y)/\Ext h h'):=by
 refine ZAG Tryz.func53 rfl (by rw[Tryz.ntmps53];rfl) ?_;show Wc Tryz.prog ⟨53,37,none⟩ _ _ _ _ _;refine zy ?_;refine ZAn rfl rfl rfl fun h1 hE1 hW1 hg1 hn1=>?_;refine zy ?_;refine ZAn rfl rfl rfl fun h2 hE2 hW2 hg2 hn2=>?_;have k1:=hE2.get hg1;obtain⟨z1,e1⟩:∃z,z=cmpI ltB x.archive y.archive:=⟨_,rfl⟩;have c1:=ZFi x.archive y.archive h2;rw[<-e1] at c1;obtain⟨z2,e2⟩:∃z,z=cmpI ltI x.number y.number:=⟨_,rfl⟩;have c2:=ZHM x.number y.number h2;rw[<-e2] at c2;obtain⟨z3,e3⟩:∃z,z=cmpI ltI x.day y.day:=⟨_,rfl⟩;have c3:=ZHM x.day y.day h2;rw[<-e3] at c3;obtain⟨z4,e4⟩:∃z,z=cmpI ltI x.kind y.kind:=⟨_,rfl⟩;have c4:=ZHM x.kind y.kind h2
 rw[<-e4] at c4;obtain⟨z5,e5⟩:∃z,z=cmpI ltB x.a y.a:=⟨_,rfl⟩;have c5:=ZFi x.a y.a h2;rw[<-e5] at c5;obtain⟨z6,e6⟩:∃z,z=cmpI ltB x.b y.b:=⟨_,rfl⟩;have c6:=ZFi x.b y.b h2;rw[<-e6] at c6;refine zy ?_;refine ZAL hmix [0,1,0,4,15,0,32,0,128,511,0,1024,0,4096,16383,0,32768,0,131072,524287,0,1048576,0,4194304,16777215,0,33554432,0,134217728,536870911,1073741823,2147483647,4294967295] [0,1,2,3,5,6,7,8,10,11,12,13,15,16,17,18,20,21,22,23,25,26,27,28] (some 4) [([],(some 9)),([],(some 14)),([],(some 19)),([],(some 24)),([],(some 29)),([30],(some 31)),([],(some 32)),([],none)] (by kernel_rfl) (by kernel_rfl) ?_
 refine z_f ?_;refine z_l ?_;refine z_f ?_;refine z_l ?_;refine z_f ?_;refine z_l ?_;refine z_f ?_;refine z_l ?_;refine z_f ?_;refine z_l ?_;refine z_f ?_;refine z_l ?_;refine z_f ?_;refine z_l ?_;refine z_f ?_;refine z_l ?_;refine z_f ?_;refine z_l ?_;refine z_f ?_;refine z_l ?_;refine z_f ?_;refine z_l ?_;refine z_f ?_;refine z_l ?_;refine ZAI [0,1,2,3] (by kernel_rfl) rfl (ZAA rfl) rfl nb (kF (kF (kF (kF (kF (kF (kF (kF (kF (kF (kF (kF (kF (kF (kF (kF (kF (kF (kF (kF (dF (dF (dF (dF nF)))))))))))))))))))))))) (ZAX rfl rfl rfl rfl rfl Bod.h c1 ?_);refine ZAI [0,1,2,3,4,5,6,7,8] (by kernel_rfl) rfl (by refine t_l 28 ?_;refine t_f 27 ?_;refine t_l 26 ?_;refine t_f 25 ?_;refine t_l 23 ?_;refine t_f 22 ?_;refine t_l 21 ?_;refine t_f 20 ?_;refine t_l 18 ?_;refine t_f 17 ?_;refine t_l 16 ?_;refine t_f 15 ?_;refine t_l 13 ?_;refine t_f 12 ?_;refine t_l 11 ?_;refine t_f 10 ?_;refine t_l 8 ?_;refine t_f 7 ?_;refine t_l 6 ?_;refine t_f 5 ?_;exact ZAA rfl) rfl nb (kF (kF (kF (kF (kF (kF (kF (kF (kF (kF (kF (kF (kF (kF (kF (kF (dF (dF (dF (dF nF)))))))))))))))))))) (ZAX rfl rfl rfl rfl rfl Bod.h c2 ?_)
 refine ZAI [0,1,2,3,4,5,6,7,8,9,10,11,12,13] (by kernel_rfl) rfl (by refine t_l 28 ?_;refine t_f 27 ?_;refine t_l 26 ?_;refine t_f 25 ?_;refine t_l 23 ?_;refine t_f 22 ?_;refine t_l 21 ?_;refine t_f 20 ?_;refine t_l 18 ?_;refine t_f 17 ?_;refine t_l 16 ?_;refine t_f 15 ?_;refine t_l 13 ?_;refine t_f 12 ?_;refine t_l 11 ?_;refine t_f 10 ?_;exact ZAA rfl) rfl nb (kF (kF (kF (kF (kF (kF (kF (kF (kF (kF (kF (kF (dF (dF (dF (dF nF)))))))))))))))) (ZAX rfl rfl rfl rfl rfl Bod.h c3 ?_);refine ZAI [0,1,2,3,4,5,6,7,8,9,10,11,12,13,14,15,16,17,18] (by kernel_rfl) rfl (by refine t_l 28 ?_;refine t_f 27 ?_;refine t_l 26 ?_;refine t_f 25 ?_;refine t_l 23 ?_;refine t_f 22 ?_;refine t_l 21 ?_;refine t_f 20 ?_;refine t_l 18 ?_;refine t_f 17 ?_;refine t_l 16 ?_;refine t_f 15 ?_;exact ZAA rfl) rfl nb (kF (kF (kF (kF (kF (kF (kF (kF (dF (dF (dF (dF nF)))))))))))) (ZAX rfl rfl rfl rfl rfl Bod.h c4 ?_)
 refine ZAI [0,1,2,3,4,5,6,7,8,9,10,11,12,13,14,15,16,17,18,19,20,21,22,23] (by kernel_rfl) rfl (by refine t_l 28 ?_;refine t_f 27 ?_;refine t_l 26 ?_;refine t_f 25 ?_;refine t_l 23 ?_;refine t_f 22 ?_;refine t_l 21 ?_;refine t_f 20 ?_;exact ZAA rfl) rfl nb (kF (kF (kF (kF (dF (dF (dF (dF nF)))))))) (ZAX rfl rfl rfl rfl rfl Bod.h c5 ?_);refine ZAI [0,1,2,3,4,5,6,7,8,9,10,11,12,13,14,15,16,17,18,19,20,21,22,23,24,25,26,27,28] (by kernel_rfl) rfl (by refine t_l 28 ?_;refine t_f 27 ?_;refine t_l 26 ?_;refine t_f 25 ?_;exact ZAA rfl) rfl nb (dF (dF (dF (dF nF)))) (ZAX rfl rfl rfl rfl rfl Bod.h c6 ?_)
 refine ZDS (nk:=.sl _ _) rfl rfl rfl rfl rfl (fun _ _ hs=>N_bs hs Und.h Tsz.h Zr.h rfl rfl rfl rfl rfl) ?_;refine ZAI (h1:=(Heap.add h2 _)) [0,1,2,3,4,5,6,7,8,9,10,11,12,13,14,15,16,17,18,19,20,21,22,23,24,25,26,27,28,29,30] (by kernel_rfl) rfl (ZAA rfl) rfl rfl (dF nF) (ZAX rfl rfl rfl rfl rfl Bod.h (ZR9 (l:=[z1,z2,z3,z4,z5,z6]) (ZRz rfl) (by simp)) ?_);refine ZAI (h1:=(Heap.add h2 _)) [0,1,2,3,4,5,6,7,8,9,10,11,12,13,14,15,16,17,18,19,20,21,22,23,24,25,26,27,28,29,30,31] (by kernel_rfl) rfl (ZAA rfl) rfl rfl nF (ZCU rfl rfl (ZAj rfl) ?_);refine ZAO (h1:=(Heap.add h2 _)) (ZAA rfl) rfl ?_;refine zy ?_
 exact ZAC (ZAD rfl ⟨by rw[ZOr,<-e1,<-e2,<-e3,<-e4,<-e5,<-e6];rfl,(hE1.trans hE2).trans (Ext.add hW2 _)⟩)
abbrev rowK (k:Key):List Value:=[str k.1,i64 k.2]
theorem ZQt (x:WkR)(h:Heap):Sv Tryz.prog 31 [.agg ⟨rowW x⟩] h (RetP fun v h'=>v=.agg ⟨rowK x.key⟩/\Ext h h'):=by
 refine ZAG Tryz.func31 rfl (by rw[Tryz.ntmps31];rfl) ?_;show Wc Tryz.prog ⟨31,8,none⟩ _ _ _ _ _;refine ZBR fun hW0=>?_;refine zy ?_;refine ZAn rfl rfl rfl fun h1 hE1 hW1 hg1 hn1=>?_;refine zy ?_;refine ZA2 rfl rfl Zr.h fun h2 hE2 hW2 hg2 hn2=>?_;have k1:=hE2.get hg1;refine zy ?_;refine ZAf rfl Tsz.h rfl rfl hg2 rfl rfl rfl fun h5 hU=>?_;have hg5:=hU.at';refine zy ?_;exact ZAC (ZAD (vs:=[.agg ⟨rowK x.key⟩]) (ZBT rfl (ZBp RowC.h (ZAP hg5 rfl)) rfl) ⟨rfl,hU.ext (hE1.trans hE2) hW0 (hE1.2.1)⟩)
def priB (c:UInt8):Bool:=decide (32<=c.toNat/\c.toNat<=126)
theorem ZUd {c:Int}{h:Heap}(h1:0<=c)(h2:c<=1114111):Sv Tryz.prog 200 [.int .i32 c] h (RetP fun v h'=>v=.bool (decide (c<32\/126<c))/\h'=h):=by
 have hw:IntKind.i64.wrap c=c:=IntWalk.i64_in _ (by omega);refine ZAG Tryz.func200 rfl (by rw[Tryz.ntmps200];rfl) ?_;show Wc Tryz.prog ⟨200,6,none⟩ _ _ _ _ _;refine zy ?_;refine zD (ZDE ⟨_,Und.h⟩ Und.h rfl hw) ?_;refine zV (ZGI _ _ _ _) ?_;exact ZAC (ZAD rfl ⟨rfl,rfl⟩)
def IxR (s:List UInt8)(h:Heap)(v:Value)(h':Heap):Prop:=Ext h h'/\∃n:Int,v=i64 n/\(n<0 ↔ s.all priB=true)
theorem ZM8 {s:List UInt8}{h:Heap}(hs:Len s):Sv Tryz.prog 223 [str s,.func (.func 200) ⟨[]⟩ ⟨[]⟩,.bool true] h (RetP (IxR s h)):=by
 refine ZA5 fun hw=>?_;refine ZAG Tryz.func223 rfl (by rw[Tryz.ntmps223];rfl) ?_;show Wc Tryz.prog ⟨223,21,none⟩ _ _ _ _ _;refine zy ?_;refine ZRi rfl rfl Und.h rfl fun h1 hE1 hW1 hg1 hn1=>?_;have hb:h.nx<=h.nx:=Nat.le_refl _;generalize hbq:h.nx=b at hg1 hb ⊢;refine zy ?_;refine ZAN (fun (k:Nat) m ds h'=>ds=[]/\Ext h h'/\h'.get b=some (.siter ⟨⟨s⟩⟩ k)/\k<=s.length/\(∀j (hj:j<s.length),j<k->priB s[j]=true)/\AllK m [(1,.func (.func 200) ⟨[]⟩ ⟨[]⟩),(2,.bool true),(10,.pointer (some ⟨b,0,none⟩))]) (fun k=>s.length-k) 0 ?_ ?_
 ·exact⟨rfl,hE1,hg1,Nat.zero_le _,(fun j _ hj=>absurd hj (Nat.not_lt_zero _)),rfl,rfl,rfl,trivial⟩
 clear hE1 hW1 hg1 hn1;clear h1;rintro k m ds h1 ⟨rfl,hE1,hg1,hk,hno,hall⟩;refine Wc.le ?_ (Le.kn hall);refine zy ?_
 by_cases hk':k<s.length
 rotate_left
 ·refine zD (ZQo rfl hg1 hk') ?_
  refine ZAC (ZAD rfl ⟨hE1,-1,rfl,⟨fun _=>?_,fun _=>by decide⟩⟩);rw[List.all_eq_true];intro x hx;obtain⟨j,hj,rfl⟩:=List.getElem_of_mem hx;exact hno j hj (by omega)
 obtain⟨c,w,hd⟩:∃c w,Utf8.decode ⟨⟨s⟩⟩ k=(c,w):=⟨_,_,rfl⟩;have hc1:=Lib.rune_le ⟨⟨s⟩⟩ k;have hlo:=ZOS hk';have hhi:=ZMl hk';rw[hd] at hc1 hlo hhi;simp only at hc1 hhi;have hU:=Upd.mk' h1 b (.siter ⟨⟨s⟩⟩ (k+w));have hE2:=hU.ext hE1 hw (by omega);have hg2:=hU.at';refine zE (ZUq rfl hg1 hk' hd) ?_;generalize h1.set b (.siter ⟨⟨s⟩⟩ (k+w))=h2 at *;refine zy ?_;refine zV (ZUd (c:=(c:Int)) (by omega) (by omega)) ?_
 by_cases hp:priB s[k]=true
 ·have hp':=hp
  unfold priB at hp';replace hp':=of_decide_eq_true hp';have hcw:=hlo (by omega);obtain⟨rfl,rfl⟩:c=s[k].toNat/\w=1:=by
   simp only[Prod.mk.injEq] at hcw;exact hcw
  refine zD (A_ff (by rw[decide_eq_false (by omega)];decide) (ZTc Und.h rfl rfl)) ?_;refine⟨k+1,(by show s.length-(k+1)<s.length-k;omega),rfl,hE2,hg2,hk',fun j hj hlt=>?_,rfl,rfl,rfl,trivial⟩
  rcases Nat.lt_or_ge j k with g|g
  ·exact hno j hj g
  ·have:j=k:=by omega
   subst this;exact hp
 ·have hc2:(c:Int)<32\/126<(c:Int):=by
   by_cases h8:s[k].toNat<128
   ·have hcw:=hlo h8
    simp only[Prod.mk.injEq] at hcw;have:¬(32<=s[k].toNat/\s[k].toNat<=126):=fun e=>hp (decide_eq_true e);omega
   ·have:=hhi h8
    omega
  refine zD (A_tt (by rw[decide_eq_true hc2]) (ZTc Und.h rfl rfl)) ?_;refine ZAC (ZAD rfl ⟨hE2,k,rfl,⟨fun e=>by omega,fun e=>?_⟩⟩);exact absurd (List.all_eq_true.1 e _ (List.getElem_mem hk')) hp
theorem ZKI {s:List UInt8}{h:Heap}(hs:Len s):Sv Tryz.prog 217 [str s,.func (.func 200) ⟨[]⟩ ⟨[]⟩] h (RetP (IxR s h)):=by
 refine ZAG Tryz.func217 rfl (by rw[Tryz.ntmps217];rfl) ?_;show Wc Tryz.prog ⟨217,8,none⟩ _ _ _ _ _;refine zy ?_;refine zR (ZM8 hs) ?_;rintro v h1 ⟨hE1,n,rfl,hn⟩;refine zy ?_;exact ZAC (ZAD rfl ⟨hE1,n,rfl,hn⟩)
theorem ZIb {s:List UInt8}{h:Heap}(hs:Len s):Sv Tryz.prog 199 [str s,.func (.func 200) ⟨[]⟩ ⟨[]⟩] h (RetP fun v h'=>v=.bool (!s.all priB)/\Ext h h'):=by
 refine ZAG Tryz.func199 rfl (by rw[Tryz.ntmps199];rfl) ?_;show Wc Tryz.prog ⟨199,9,none⟩ _ _ _ _ _;refine zy ?_;refine zR (ZKI hs) ?_;rintro v h1 ⟨hE1,n,rfl,hn⟩;refine zy ?_;refine zD (ZFD rfl rfl) ?_;refine ZAC (ZAD rfl ⟨?_,hE1⟩);have:decide (0<=n)=!s.all priB:=by
  rw[Bool.eq_iff_iff,decide_eq_true_eq,Bool.not_eq_true',<-Bool.not_eq_true,<-hn];omega
 rw[this];rfl
def tRb (c:UInt8)(s:List UInt8):List UInt8:=(s.reverse.dropWhile fun x=>decide (x=c)).reverse
def tLb (c:UInt8)(s:List UInt8):List UInt8:=s.dropWhile fun x=>decide (x=c)
theorem ZNk {c x:UInt8}{l:List UInt8}:tRb c (l++[x])=if x=c then tRb c l else l++[x]:=by
 unfold tRb;rw[List.reverse_append]
 show ((x::l.reverse).dropWhile _).reverse=_
 rw[List.dropWhile_cons]
 by_cases e:x=c
 ·simp[e]
 ·simp[e]
theorem ZUv (s:List UInt8)(c:UInt8)(h:Heap)(hs:Len s):Sv Tryz.prog 113 [str s,byt c] h (RetP fun v h'=>v=str (tRb c s)/\h'=h):=by
 refine ZAG Tryz.func113 rfl (by rw[Tryz.ntmps113];rfl) ?_;show Wc Tryz.prog ⟨113,23,none⟩ _ _ _ _ _;refine zy ?_;refine ZAN (fun (l:List UInt8) m ds h'=>ds=[]/\h=h'/\tRb c l=tRb c s/\l.length<=s.length/\AllK m [(0,str l),(1,byt c)]) (fun l=>l.length) s ?_ ?_
 ·exact⟨rfl,rfl,rfl,Nat.le_refl _,rfl,rfl,trivial⟩
 rintro l m ds h' ⟨rfl,rfl,ht,hl,hall⟩;refine Wc.le ?_ (Le.kn hall);clear hall;refine zy ?_
 rcases List.eq_nil_or_concat l with rfl|⟨r,x,rfl⟩
 ·refine zD (A_ff (by simp) (ZA4 rfl rfl)) ?_
  exact ZAC (ZAD rfl ⟨by rw[<-ht];rfl,rfl⟩)
 have hn:(r++[x]).length=r.length+1:=by simp
 rw[List.concat_eq_append] at *;rw[ZNk] at ht;refine zD (A_tt (by rw[hn];omega) (ZA4 rfl rfl)) ?_;have hx:(r++[x])[r.length]'(by omega)=x:=by simp
 refine zE (ZAc (k:=r.length) Und.h rfl rfl (by rw[hn];omega) (by omega)) ?_;rw[hx];refine zy ?_;refine zC (ZAg rfl rfl) (fun c1=>?_) (fun c1=>?_)
 ·have e:x=c:=ZKk.1 c1
  rw[if_pos e] at ht;refine zy ?_;refine zD (ZFs (k:=r.length) Und.h rfl rfl (by rw[hn];omega) (by omega)) ?_;refine⟨r,(by show r.length<(r++[x]).length;omega),rfl,rfl,ht,(by omega),?_,rfl,trivial⟩
  show some (str ((r++[x]).take r.length))=some (str r)
  rw[List.take_left]
 ·have e:¬x=c:=fun e=>c1 (ZKk.2 e)
  rw[if_neg e] at ht;refine zy ?_;exact ZAC (ZAD rfl ⟨by rw[ht];rfl,rfl⟩)
theorem ZUy (s:List UInt8)(c:UInt8)(h:Heap)(hs:Len s):Sv Tryz.prog 112 [str s,byt c] h (RetP fun v h'=>v=str (tLb c s)/\h'=h):=by
 refine ZAG Tryz.func112 rfl (by rw[Tryz.ntmps112];rfl) ?_;show Wc Tryz.prog ⟨112,17,none⟩ _ _ _ _ _;refine zy ?_;refine ZAN (fun (l:List UInt8) m ds h'=>ds=[]/\h=h'/\tLb c l=tLb c s/\l.length<=s.length/\AllK m [(0,str l),(1,byt c)]) (fun l=>l.length) s ?_ ?_
 ·exact⟨rfl,rfl,rfl,Nat.le_refl _,rfl,rfl,trivial⟩
 rintro l m ds h' ⟨rfl,rfl,ht,hl,hall⟩;refine Wc.le ?_ (Le.kn hall);clear hall;refine zy ?_
 cases l with
 | nil =>
  refine zD (A_ff (by simp) (ZA4 rfl rfl)) ?_;exact ZAC (ZAD rfl ⟨by rw[<-ht];rfl,rfl⟩)
 | cons x r =>
 have hn:(x::r).length=r.length+1:=rfl;refine zD (A_tt (by rw[hn];omega) (ZA4 rfl rfl)) ?_;refine zD (ZAc (k:=0) Und.h rfl rfl rfl (by omega)) ?_;refine zC (ZAg rfl rfl) (fun c1=>?_) (fun c1=>?_)
 ·have e:x=c:=ZKk.1 c1
  refine zy ?_;refine zD (ZFg (k:=1) Und.h rfl rfl rfl (by omega)) ?_;refine⟨r,(by show r.length<(x::r).length;omega),rfl,rfl,?_,(by omega),rfl,rfl,trivial⟩;rw[<-ht];unfold tLb;rw[List.dropWhile_cons];simp[e]
 ·have e:¬x=c:=fun e=>c1 (ZKk.2 e)
  refine zy ?_;refine ZAC (ZAD rfl ⟨?_,rfl⟩);have:tLb c s=x::r:=by
   rw[<-ht];unfold tLb;rw[List.dropWhile_cons];simp[e]
  rw[this];rfl
def tSp (s:List UInt8):List UInt8:=tLb 32 (tRb 32 s)
theorem ZPu (s:List UInt8)(h:Heap)(hs:Len s)(hne:s≠[]):Sv Tryz.prog 67 [str s,str [32]] h (RetP fun v h'=>v=str (tSp s)/\h'=h):=by
 have hR:(tRb 32 s).length<=s.length:=by
  unfold tRb;rw[List.length_reverse];have:=(List.dropWhile_sublist (l:=s.reverse) fun x=>decide (x=32)).length_le
  simpa using this
 refine ZAG Tryz.func67 rfl (by rw[Tryz.ntmps67];rfl) ?_;show Wc Tryz.prog ⟨67,43,none⟩ _ _ _ _ _;refine zy ?_;refine zD (A_ff hne (ZBB rfl rfl)) ?_;refine zD (A_ff (by decide) (ZBB rfl rfl)) ?_;refine zD (A_tt (by decide) (ZAg rfl rfl)) ?_;refine zE (ZAc (k:=0) Und.h rfl rfl rfl (by decide)) ?_;refine zD (A_tt (by decide) (ZAU rfl rfl)) ?_;refine ZAL hmix [0,0,2,7,0,16,63,127] [0,1,2,4,5] (some 3) [([],(some 6)),([],(some 7)),([],none)] (by kernel_rfl) (by kernel_rfl) ?_;refine z_m ?_;refine z_m ?_;refine ZAB rfl rfl rfl rfl rfl (fun _=>ZAc (l:=[32]) (k:=0) Und.h rfl rfl rfl (by decide)) ?_;refine z_m ?_;refine ZAB rfl rfl rfl rfl rfl (fun _=>ZAc (l:=[32]) (k:=0) Und.h rfl rfl rfl (by decide)) ?_
 refine ZAI [0,1,2] (by kernel_rfl) rfl (ZAA rfl) rfl nb rfl (ZAX rfl rfl rfl rfl rfl Bod.h (ZUv s 32 h hs) ?_);refine ZAI [0,1,2,3,4,5] (by kernel_rfl) rfl (by refine ZBZ (i:=5) rfl rfl rfl rfl rfl (fun _=>ZAc (l:=[32]) (k:=0) Und.h rfl rfl rfl (by decide)) rfl ?_;refine t_m 4 ?_;exact ZAA rfl) rfl nb rfl (ZAX rfl rfl rfl rfl rfl Bod.h (ZUy (tRb 32 s) 32 h (by have:=hs;show _<_;unfold Len at this;omega)) ?_);refine ZAI [0,1,2,3,4,5,6] (by kernel_rfl) rfl (ZAA rfl) rfl nb rfl (ZCU rfl rfl (ZAj rfl) ?_);refine ZAO (ZAA rfl) nb' ?_;refine zy ?_;exact ZAC (ZAD rfl ⟨rfl,rfl⟩)
theorem ZSG {s:List UInt8}(hne:s≠[]):tSp s=s ↔ s.head?≠some 32/\s.getLast?≠some 32:=by
 obtain⟨r,x,e⟩:=(List.eq_nil_or_concat s).resolve_left hne
 have hlen:∀l:List UInt8,(tRb 32 l).length<=l.length:=fun l=>by
  unfold tRb;rw[List.length_reverse];have:=(List.dropWhile_sublist (l:=l.reverse) fun x=>decide (x=32)).length_le
  simpa using this
 have hL:∀l:List UInt8,(tLb 32 l).length<=l.length:=fun l=>(List.dropWhile_sublist _).length_le;have h1:tRb 32 s=if x=32 then tRb 32 r else s:=by rw[e,List.concat_eq_append,ZNk]
 have h2:s.getLast?=some x:=by rw[e];simp
 have h3:s.length=r.length+1:=by rw[e];simp
 rw[h2]
 by_cases hx:x=32
 ·rw[if_pos hx] at h1
  constructor
  ·intro h
   have:=congrArg List.length h;unfold tSp at this;rw[h1] at this;have a:=hL (tRb 32 r);have b:=hlen r;omega
  ·rintro⟨-,h⟩
   exact absurd (by rw[hx]) h
 ·rw[if_neg hx] at h1
  unfold tSp;rw[h1]
  cases s with
  | nil=>exact absurd rfl hne
  | cons y l =>
   unfold tLb;rw[List.dropWhile_cons]
   by_cases hy:y=32
   ·simp only[hy,decide_true,if_true,List.head?_cons,ne_eq,not_true,false_and,iff_false]
    intro h;have:=congrArg List.length h;have a:=(List.dropWhile_sublist (l:=l) fun x=>decide (x=32)).length_le;simp at this;omega
   ·simp[hy,hx]
end Go.Dw
