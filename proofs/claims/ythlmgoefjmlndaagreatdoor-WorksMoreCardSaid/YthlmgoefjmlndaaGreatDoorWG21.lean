/- M1: contracts: records that are looked for; a further record. -/
import Derived.Test.YthlmgoefjmlndaaGreatDoorWG2
import Derived.Test.YthlmgoefjmlndaaGreatDoorWG20
import Derived.Test.YthlmgoefjmlndaaGreatDoorWG18
import Derived.Test.YthlmgoefjmlndaaGreatDoorWG8
set_option linter.unusedVariables false
set_option linter.unusedSimpArgs false
namespace Go.Dw
open Go Go.Dx Go.Proofs
set_option maxRecDepth 100000
def ZMd (l:List WkR)(x:WkR):Bool:=decide (∀y∈l,y.key≠x.key)
theorem ZRe {a:Option Addr}{cap:Nat}{l:List WkR}{k:WkR}{h:Heap}(hR:ZAm 6 (fun _ row x=>row=rowW x) h a l)(hlen:Len l):Sv Tryz.prog 32 [.slice a l.length cap,.agg ⟨rowW k⟩] h (RetP fun v h'=>v=.bool (ZMd l k)/\Ext h h'):=by
 refine ZAF Tryz.func32 rfl (by rw[Tryz.ntmps32];rfl) ?_;show Wc Tryz.prog ⟨32,30,none⟩ _ _ _ _ _;refine zy ?_;refine ZBf rfl rfl rfl fun h1 hE1 hW1 hg1 hn1=>?_;generalize h.nx=b1 at hg1 ⊢;refine zy ?_;refine ZAP (fun (j:Nat) m ds h'=>ds=[]/\h1=h'/\j<=l.length/\(∀y∈l.take j,y.key≠k.key)/\AllK m [(0,.slice a l.length cap),(3,.pointer (some ⟨b1,0,none⟩)),(5,i64 (j:Nat))]) (fun j=>l.length-j) 0 ?_ ?_
 ·exact⟨rfl,rfl,Nat.zero_le _,by simp,rfl,rfl,rfl,trivial⟩
 rintro j m ds h' ⟨rfl,rfl,hj,hno,hall⟩;refine Wc.le ?_ (Le.kn hall);clear hall;refine zy ?_;refine ZAS rfl rfl rfl rfl (ZAd rfl rfl) (fun hjl=>?_) (fun hjl=>?_);rotate_left
 ·refine zy ?_
  have:j=l.length:=by omega
  subst this;rw[List.take_length] at hno;exact ZAG (ZAH rfl ⟨by rw[ZMd,decide_eq_true hno];rfl,hE1⟩)
 have hj':j<l.length:=by omega
 obtain⟨b,o,oa,rfl,row,hr0,hx⟩:=hR j hj';have hr:=hE1.row hr0;have e1:row=rowW l[j]:=hx;have htk:l.take (j+1)=l.take j++[l[j]]:=by rw[List.take_add_one,List.getElem?_eq_getElem hj'];rfl
 have hmem:l[j]∈l:=List.getElem_mem hj';clear hx hr0;generalize l[j]=x at *;subst e1;have hc0:ZAe h1 b (o+j*6+0)=some (str x.archive):=ZAV (k:=0) hr rfl;have hc1:ZAe h1 b (o+j*6+1)=some (i64 x.number):=ZAV (k:=1) hr rfl;have hb0:ZAe h1 b1 (0+0)=some (str k.archive):=ZAb hg1 rfl;have hb1:ZAe h1 b1 (0+1)=some (i64 k.number):=ZAb hg1 rfl
 by_cases he:x.archive=k.archive
 rotate_left
 ·refine zy ?_
  refine ZAQ hmix [0,0,3,7,15,0,32,127,255,511,511,2047,4095,8191,511,16895,65535,131071] [0,1,2,3,4,5,6,7,8,9,10,11,12,13,14,15,16,17] none [] (by kernel_rfl) (by kernel_rfl) ?_;refine z_m ?_;refine z_m ?_;refine ZAC rfl rfl rfl rfl rfl (fun _=>A_ix (k:=j) Und.h Tsz.h rfl rfl) ?_;refine z_f ?_;refine z_l ?_;refine z_f ?_;refine z_l ?_;refine ZAC rfl rfl rfl rfl rfl (fun _=>A_ff he (ZAt rfl rfl)) ?_;refine z_m ?_;refine g_m ?_;refine g_m ?_
  first|refine ZAg rfl rfl rfl rfl ?_|refine ZAC rfl rfl rfl rfl rfl (fun _=>A_ix (k:=j) Und.h Tsz.h rfl rfl) ?_
  refine g_f ?_;refine g_l ?_;refine g_f ?_;refine g_l ?_;refine z_o ?_;refine z_p ?_;refine ZAW (ZAA rfl) nb' ?_;refine zy ?_;refine⟨j+1,(by show l.length-(j+1)<l.length-j;omega),rfl,rfl,hj',?_,rfl,rfl,rfl,trivial⟩;intro y hy;rw[htk,List.mem_append,List.mem_singleton] at hy
  rcases hy with hy|rfl
  ·exact hno y hy
  ·exact fun q=>he (congrArg Prod.fst q)
 by_cases hn:x.number=k.number
 ·refine zy ?_
  refine ZAQ hmix [0,0,3,7,15,0,32,127,255,511,511,2047,4095,8191,511,16895,65535,131071] [0,1,2,3,4,5,6,7,8,9,10,11,12,13,14,15,16,17] none [] (by kernel_rfl) (by kernel_rfl) ?_;refine z_m ?_;refine z_m ?_;refine ZAC rfl rfl rfl rfl rfl (fun _=>A_ix (k:=j) Und.h Tsz.h rfl rfl) ?_;refine z_f ?_;refine z_l ?_;refine z_f ?_;refine z_l ?_;refine ZAC rfl rfl rfl rfl rfl (fun _=>A_tt he (ZAt rfl rfl)) ?_;refine z_m ?_;refine g_m ?_;refine g_m ?_
  first|refine ZAg rfl rfl rfl rfl ?_|refine ZAC rfl rfl rfl rfl rfl (fun _=>A_ix (k:=j) Und.h Tsz.h rfl rfl) ?_
  refine g_f ?_;refine g_l ?_;refine g_f ?_;refine g_l ?_
  first|refine ZAg rfl rfl rfl rfl ?_|refine ZAC rfl rfl rfl rfl rfl (fun _=>A_tt hn (ZBV rfl rfl)) ?_
  refine z_p ?_;refine ZAW (ZAA rfl) nb' ?_;refine zy ?_;refine ZAG (ZAH rfl ⟨?_,hE1⟩);have:ZMd l k=false:=decide_eq_false fun q=>q x hmem (by unfold WkR.key;rw[he,hn]);rw[this];rfl
 ·refine zy ?_
  refine ZAQ hmix [0,0,3,7,15,0,32,127,255,511,511,2047,4095,8191,511,16895,65535,131071] [0,1,2,3,4,5,6,7,8,9,10,11,12,13,14,15,16,17] none [] (by kernel_rfl) (by kernel_rfl) ?_;refine z_m ?_;refine z_m ?_;refine ZAC rfl rfl rfl rfl rfl (fun _=>A_ix (k:=j) Und.h Tsz.h rfl rfl) ?_;refine z_f ?_;refine z_l ?_;refine z_f ?_;refine z_l ?_;refine ZAC rfl rfl rfl rfl rfl (fun _=>A_tt he (ZAt rfl rfl)) ?_;refine z_m ?_;refine g_m ?_;refine g_m ?_
  first|refine ZAg rfl rfl rfl rfl ?_|refine ZAC rfl rfl rfl rfl rfl (fun _=>A_ix (k:=j) Und.h Tsz.h rfl rfl) ?_
  refine g_f ?_;refine g_l ?_;refine g_f ?_;refine g_l ?_
  first|refine ZAg rfl rfl rfl rfl ?_|refine ZAC rfl rfl rfl rfl rfl (fun _=>A_ff hn (ZBV rfl rfl)) ?_
  refine z_p ?_;refine ZAW (ZAA rfl) nb' ?_;refine zy ?_;refine⟨j+1,(by show l.length-(j+1)<l.length-j;omega),rfl,rfl,hj',?_,rfl,rfl,rfl,trivial⟩;intro y hy;rw[htk,List.mem_append,List.mem_singleton] at hy
  rcases hy with hy|rfl
  ·exact hno y hy
  ·exact fun q=>hn (congrArg Prod.snd q)
set_option maxHeartbeats 1000000 in
theorem ZMI {a:Option Addr}{cap:Nat}{l:List WkR}{x:WkR}{h:Heap}(hR:SrcK rowW 6 h a l)(hb:l.length*72<=140737488351232):Sv Tryz.prog 31 [.slice a l.length cap,.agg ⟨rowW x⟩] h (RetP fun v h'=>ZAB h h' v 44 6 ((l++[x]).flatMap rowW) (l++[x]).length/\Ext h h'):=by
 refine ZC6 fun hw=>?_;refine ZAF Tryz.func31 rfl (by rw[Tryz.ntmps31];rfl) ?_;show Wc Tryz.prog ⟨31,11,none⟩ _ _ _ _ _;refine zy ?_;refine ZBf rfl rfl rfl fun h1 hE1 hW1 hg1 hn1=>?_;have hnx:=hE1.2.1;generalize h.nx=b1 at hg1 hnx ⊢;have hEa0:=Ext.add hW1 (.cells [] 44 false);have hEa:=hEa0.trans (Ext.rsv (Heap.add h1 (.cells [] 44 false)));have hOa0:Own h1 (Heap.add h1 (.cells [] 44 false)) [slI h1 (.slice (some ⟨h1.nx,0,none⟩) 0 0) 44 6 [] 0]:=(Own.nil h1 h1).newSl hW1 (Nat.le_refl _) hEa0 (ZAB.lit Heap.get_add_same rfl (Nat.le_refl _));have hne:=hOa0.ne (hW1.add _) (Nat.le_refl (h1.nx+1));have hz1:=SrcK.src (P:=Tryz.prog) (enc:=rowW) (k:=6) (cap:=cap) (dd:=.slice 44) (by decide) (fun _=>rfl) ((hR.ext hE1).ext hEa) Und.h (by intro k;simp) (tX:=22) (el:=44)
 have hga:=hEa.get hg1;refine zy ?_;refine ZAQ hmix [0,0,3,0,8,31,63] [0,1,3,4] (some 2) [([],(some 5)),([],(some 6)),([],none)] (by kernel_rfl) (by kernel_rfl) ?_;refine ZGG (nk:=.sl _ _) rfl rfl rfl rfl rfl (fun _ _ hs=>N_bs hs Und.h Tsz.h Zr.h rfl rfl rfl rfl rfl) ?_;refine z_m ?_;refine z_r ?_;refine ZGG (nk:=.sl _ _) rfl rfl rfl rfl rfl (fun _ _ hs=>N_bs hs Und.h Tsz.h Zr.h rfl rfl rfl rfl rfl) ?_;refine ZAL (h1:=(rsv (Heap.add h1 _))) [0,1] (by kernel_rfl) rfl (ZAA rfl) rfl rfl (kF (kF (dF (dF nF)))) (ZCF (ZN2 (n1:=h1.nx+1) (by':=72) (sz:=6) (k:=l.length) (n:=0) (l:=l.flatMap rowW) rfl hW1 hEa rfl rfl rfl rfl Und.h inferInstance rfl rfl (hOa0.ext (Ext.rsv _)) hz1 (by rw[ZBC (enc:=rowW) (k:=6) (fun _=>rfl)]) (ZK7 _) (by omega) (by omega) hne (Nat.lt_succ_self _) (fun v12 h12 hO13 hE12 hne12 hn12 hw12=>?_)))
 have hU12:=Upd.mk' h12 (h1.nx+1) (.cells (rowW x) 44 false);have hO13':=hO13.other (.cells (rowW x) 44 false) hne12;have hE12':=hU12.ext hE12 hW1 (Nat.le_succ _);have hg12:=hE12.get hg1;have hg12':=hE12'.get hg1;rw[List.nil_append,Nat.zero_add] at hO13';refine ZAL (h1:=(h12.set (h1.nx+1) (.cells (rowW x) 44 false))) [0,1,2,3,4] (by kernel_rfl) rfl (by refine ZOr (i:=4) (nk:=.sl _ _) rfl rfl rfl rfl rfl (fun _ _ hs=>N_bs hs Und.h Tsz.h Zr.h rfl rfl rfl rfl rfl) rfl ?_;refine t_r 3 ?_;exact ZAA rfl) rfl rfl (dF (dF nF)) (ZCF (ZC8 (by':=72) (sz:=6) (k:=1) (n:=l.length) (l:=rowW x) rfl hW1 hE12' rfl rfl rfl rfl Und.h inferInstance rfl rfl hO13' ((ZAB.lit (h0:=h1) (n:=1) (sz:=6) hU12.at' rfl (Nat.le_succ _)).src (dd:=.slice 44) Und.h (by intro k;simp)) rfl rfl (by omega) (by omega) (fun v14 h14 hO15 hE14 hw14=>?_)))
 refine ZAL (h1:=h14) [0,1,2,3,4,5] (by kernel_rfl) rfl (ZAA rfl) rfl rfl nF (ZCa rfl rfl (ZAr rfl) ?_);refine ZAW (h1:=h14) (ZAA rfl) rfl ?_;refine zy ?_;refine ZAG (ZAH rfl ⟨?_,hE1.trans hE14⟩);have hF:ZAB h1 h14 v14 44 6 (l.flatMap rowW++rowW x) (l.length+1):=hO15.p1;rw[List.flatMap_append,List.flatMap_singleton,List.length_append];exact hF.base hE1.2.1
def stkL (s:List WkR)(t:Int)(p:Str):List Str:=mrgU ltB ((itmW s).filter fun k=>decide (ZRr s t k=p))
def ZTk (l:List WkR)(p:Str)(t:Int):List Str×Int :=
 if (chkS l).2≠0 then ([],(chkS l).2) else if ZA5 p=false then ([],6) else if t<0\/80000<t then ([],7) else (stkL (ZAK (mrgU ltW l)) t p,0)
theorem ZDq {a:Option Addr}{cap:Nat}{l:List Str}{k:Str}{h:Heap}(hR:ZAs str h a l)(hlen:Len l):Sv Tryz.prog 29 [.slice a l.length cap,str k] h (RetP fun v h'=>v=.bool (decide (k∈l))/\h'=h):=by
 refine ZAF Tryz.func29 rfl (by rw[Tryz.ntmps29];rfl) ?_;show Wc Tryz.prog ⟨29,18,none⟩ _ _ _ _ _;refine zy ?_;refine ZAP (fun (j:Nat) m ds h'=>ds=[]/\h=h'/\j<=l.length/\k ∉ l.take j/\AllK m [(0,.slice a l.length cap),(1,str k),(5,i64 (j:Nat))]) (fun j=>l.length-j) 0 ?_ ?_
 ·exact⟨rfl,rfl,Nat.zero_le _,by simp,rfl,rfl,rfl,trivial⟩
 rintro j m ds h' ⟨rfl,rfl,hj,hno,hall⟩;refine Wc.le ?_ (Le.kn hall);clear hall;refine zy ?_;refine ZAS rfl rfl rfl rfl (ZAd rfl rfl) (fun hjl=>?_) (fun hjl=>?_);rotate_left
 ·refine zy ?_
  have:j=l.length:=by omega
  subst this;rw[List.take_length] at hno;exact ZAG (ZAH rfl ⟨by rw[decide_eq_false hno];rfl,rfl⟩)
 have hj':j<l.length:=by omega
 obtain⟨b,o,oa,rfl,hc⟩:=hR j hj';have htk:l.take (j+1)=l.take j++[l[j]]:=by rw[List.take_add_one,List.getElem?_eq_getElem hj'];rfl
 have hmem:l[j]∈l:=List.getElem_mem hj';generalize l[j]=x at *;refine zy ?_;refine ZAD rfl rfl rfl rfl (A_ix Und.h Tsz.h rfl rfl) ?_;refine zy ?_
 by_cases he:x=k
 ·subst he
  refine ZAD rfl rfl rfl rfl (A_tt rfl (ZAt rfl rfl)) ?_;refine zy ?_;exact ZAG (ZAH rfl ⟨by rw[decide_eq_true hmem];rfl,rfl⟩)
 ·refine ZAD rfl rfl rfl rfl (A_ff he (ZAt rfl rfl)) ?_
  refine zy ?_;refine⟨j+1,(by show l.length-(j+1)<l.length-j;omega),rfl,rfl,hj',?_,rfl,rfl,rfl,trivial⟩;rw[htk,List.mem_append,List.mem_singleton];rintro (q|q)
  ·exact hno q
  ·exact he q.symm
end Go.Dw
