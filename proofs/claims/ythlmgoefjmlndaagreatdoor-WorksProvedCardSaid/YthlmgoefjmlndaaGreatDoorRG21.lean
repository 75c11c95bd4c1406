/- M1: contracts: records that are looked for; a further record. -/
import Derived.Test.YthlmgoefjmlndaaGreatDoorRG2
import Derived.Test.YthlmgoefjmlndaaGreatDoorRG20
import Derived.Test.YthlmgoefjmlndaaGreatDoorRG18
import Derived.Test.YthlmgoefjmlndaaGreatDoorRG17
import Derived.Test.YthlmgoefjmlndaaGreatDoorRG8
set_option linter.unusedVariables false
set_option linter.unusedSimpArgs false
namespace Go.Dw
open Go Go.Dx Go.Proofs
set_option maxRecDepth 100000
theorem ZHw {a:Option Addr}{cap:Nat}{l:List WkR}{k:WkR}{h:Heap}(hR:ZA0 6 (fun _ row x=>row=rowW x) h a l)(hlen:Len l):Sv Tryz.prog 33 [.slice a l.length cap,.agg ⟨rowW k⟩] h (RetP fun v h'=>v=.bool (decide (k∈l))/\Ext h h'):=by
 refine ZAG Tryz.func33 rfl (by rw[Tryz.ntmps33];rfl) ?_;show Wc Tryz.prog ⟨33,18,none⟩ _ _ _ _ _;refine zy ?_;refine ZBU rfl rfl rfl fun h1 hE1 hW1 hg1 hn1=>?_;generalize h.nx=b1 at hg1 ⊢;refine zy ?_;refine ZAS (fun (j:Nat) m ds h'=>ds=[]/\h1=h'/\j<=l.length/\k ∉ l.take j/\AllK m [(0,.slice a l.length cap),(3,.pointer (some ⟨b1,0,none⟩)),(5,i64 (j:Nat))]) (fun j=>l.length-j) 0 ?_ ?_
 ·exact⟨rfl,rfl,Nat.zero_le _,by simp,rfl,rfl,rfl,trivial⟩
 rintro j m ds h' ⟨rfl,rfl,hj,hno,hall⟩;refine Wc.le ?_ (Le.kn hall);clear hall;refine zy ?_;refine ZAW rfl rfl rfl rfl (ZAd rfl rfl) (fun hjl=>?_) (fun hjl=>?_);rotate_left
 ·refine zy ?_
  have:j=l.length:=by omega
  subst this;rw[List.take_length] at hno;exact ZAF (ZAH rfl ⟨by rw[decide_eq_false hno];rfl,hE1⟩)
 have hj':j<l.length:=by omega
 obtain⟨b,o,oa,rfl,row,hr0,hx⟩:=hR j hj';have hr:=hE1.row hr0;have e1:row=rowW l[j]:=hx;have htk:l.take (j+1)=l.take j++[l[j]]:=by rw[List.take_add_one,List.getElem?_eq_getElem hj'];rfl
 have hmem:l[j]∈l:=List.getElem_mem hj';clear hx hr0;generalize l[j]=x at *;subst e1
 by_cases he:x=k
 ·subst he
  refine zy ?_;refine ZAQ hmix [0,0,3,7,0,31] [0,1,2,3,4,5] none [] (by kernel_rfl) (by kernel_rfl) ?_;refine z_m ?_;refine z_m ?_;refine ZAA rfl rfl rfl rfl rfl (fun _=>A_ix (k:=j) Und.h Tsz.h rfl rfl) ?_;refine z_r ?_;refine z_r ?_;refine ZAA rfl rfl rfl rfl rfl (fun _=>A_tt rfl (ZIm recK (a:=x) (b:=x) rfl rfl recG rfl rfl)) ?_;refine ZAY (ZAB rfl) nb' ?_;refine zy ?_;exact ZAF (ZAH rfl ⟨by rw[decide_eq_true hmem];rfl,hE1⟩)
 ·refine zy ?_
  refine ZAQ hmix [0,0,3,7,0,31] [0,1,2,3,4,5] none [] (by kernel_rfl) (by kernel_rfl) ?_;refine z_m ?_;refine z_m ?_;refine ZAA rfl rfl rfl rfl rfl (fun _=>A_ix (k:=j) Und.h Tsz.h rfl rfl) ?_;refine z_r ?_;refine z_r ?_;refine ZAA rfl rfl rfl rfl rfl (fun _=>A_ff he (ZIm recK (a:=x) (b:=k) rfl rfl recG rfl rfl)) ?_;refine ZAY (ZAB rfl) nb' ?_;refine zy ?_;refine⟨j+1,(by show l.length-(j+1)<l.length-j;omega),rfl,rfl,hj',?_,rfl,rfl,rfl,trivial⟩;rw[htk,List.mem_append,List.mem_singleton];rintro (q|q)
  ·exact hno q
  ·exact he q.symm
theorem ZBj {a:Option Addr}{cap:Nat}{l:List WkR}{h:Heap}(hR:SrcK rowW 6 h a l)(hn:a=none->l=[]/\cap=0)(hf:∀x∈l,x.Fit)(hlen:Len l)(hL:WkLib h) :
  Sv Tryz.prog 22 [.slice a l.length cap] h (RetP fun v h'=>(∃aS nS cS aF nF cF,v=.tuple ⟨[.slice aS nS cS,.slice aF nF cF,i64 (chkS l).2]⟩/\((chkS l).2=0->nS=(ZAJ (mrgU ltW l)).length/\nF=(ZAz (mrgU ltW l)).length/\SrcK rowW 6 h' aS (ZAJ (mrgU ltW l))/\SrcK rowK 2 h' aF (ZAz (mrgU ltW l)))/\((chkS l).2≠0->nS=0))/\Ext h h') :=
 (ZHW hR hn hf hlen hL).ret fun v h' hr=>by
  refine⟨?_,hr.2⟩
  rcases hr.1 with ⟨hc,rfl⟩|⟨hc,aS,af,rfl,hS,hF,-,-⟩
  ·exact⟨_,_,_,_,_,_,rfl,fun q=>absurd q hc,fun _=>rfl⟩
  ·exact⟨aS,_,_,af,_,_,by rw[hc],fun _=>⟨rfl,rfl,hS,hF⟩,fun q=>absurd hc q⟩
def ZM5 (l:List WkR)(x:WkR):Bool:=decide (∀y∈l,y.key≠x.key)
theorem ZRo {a:Option Addr}{cap:Nat}{l:List WkR}{k:WkR}{h:Heap}(hR:ZA0 6 (fun _ row x=>row=rowW x) h a l)(hlen:Len l):Sv Tryz.prog 32 [.slice a l.length cap,.agg ⟨rowW k⟩] h (RetP fun v h'=>v=.bool (ZM5 l k)/\Ext h h'):=by
 refine ZAG Tryz.func32 rfl (by rw[Tryz.ntmps32];rfl) ?_;show Wc Tryz.prog ⟨32,30,none⟩ _ _ _ _ _;refine zy ?_;refine ZBU rfl rfl rfl fun h1 hE1 hW1 hg1 hn1=>?_;generalize h.nx=b1 at hg1 ⊢;refine zy ?_;refine ZAS (fun (j:Nat) m ds h'=>ds=[]/\h1=h'/\j<=l.length/\(∀y∈l.take j,y.key≠k.key)/\AllK m [(0,.slice a l.length cap),(3,.pointer (some ⟨b1,0,none⟩)),(5,i64 (j:Nat))]) (fun j=>l.length-j) 0 ?_ ?_
 ·exact⟨rfl,rfl,Nat.zero_le _,by simp,rfl,rfl,rfl,trivial⟩
 rintro j m ds h' ⟨rfl,rfl,hj,hno,hall⟩;refine Wc.le ?_ (Le.kn hall);clear hall;refine zy ?_;refine ZAW rfl rfl rfl rfl (ZAd rfl rfl) (fun hjl=>?_) (fun hjl=>?_);rotate_left
 ·refine zy ?_
  have:j=l.length:=by omega
  subst this;rw[List.take_length] at hno;exact ZAF (ZAH rfl ⟨by rw[ZM5,decide_eq_true hno];rfl,hE1⟩)
 have hj':j<l.length:=by omega
 obtain⟨b,o,oa,rfl,row,hr0,hx⟩:=hR j hj';have hr:=hE1.row hr0;have e1:row=rowW l[j]:=hx;have htk:l.take (j+1)=l.take j++[l[j]]:=by rw[List.take_add_one,List.getElem?_eq_getElem hj'];rfl
 have hmem:l[j]∈l:=List.getElem_mem hj';clear hx hr0;generalize l[j]=x at *;subst e1;have hc0:ZAZ h1 b (o+j*6+0)=some (str x.archive):=ZAM (k:=0) hr rfl;have hc1:ZAZ h1 b (o+j*6+1)=some (i64 x.number):=ZAM (k:=1) hr rfl;have hb0:ZAZ h1 b1 (0+0)=some (str k.archive):=ZAb hg1 rfl;have hb1:ZAZ h1 b1 (0+1)=some (i64 k.number):=ZAb hg1 rfl
 by_cases he:x.archive=k.archive
 rotate_left
 ·refine zy ?_
  refine ZAQ hmix [0,0,3,7,15,0,32,127,255,511,511,2047,4095,8191,511,16895,65535,131071] [0,1,2,3,4,5,6,7,8,9,10,11,12,13,14,15,16,17] none [] (by kernel_rfl) (by kernel_rfl) ?_;refine z_m ?_;refine z_m ?_;refine ZAA rfl rfl rfl rfl rfl (fun _=>A_ix (k:=j) Und.h Tsz.h rfl rfl) ?_;refine z_f ?_;refine z_l ?_;refine z_f ?_;refine z_l ?_;refine ZAA rfl rfl rfl rfl rfl (fun _=>A_ff he (ZAV rfl rfl)) ?_;refine z_m ?_;refine g_m ?_;refine g_m ?_
  first|refine ZAO rfl rfl rfl rfl ?_|refine ZAA rfl rfl rfl rfl rfl (fun _=>A_ix (k:=j) Und.h Tsz.h rfl rfl) ?_
  refine g_f ?_;refine g_l ?_;refine g_f ?_;refine g_l ?_;refine z_o ?_;refine z_p ?_;refine ZAY (ZAB rfl) nb' ?_;refine zy ?_;refine⟨j+1,(by show l.length-(j+1)<l.length-j;omega),rfl,rfl,hj',?_,rfl,rfl,rfl,trivial⟩;intro y hy;rw[htk,List.mem_append,List.mem_singleton] at hy
  rcases hy with hy|rfl
  ·exact hno y hy
  ·exact fun q=>he (congrArg Prod.fst q)
 by_cases hn:x.number=k.number
 ·refine zy ?_
  refine ZAQ hmix [0,0,3,7,15,0,32,127,255,511,511,2047,4095,8191,511,16895,65535,131071] [0,1,2,3,4,5,6,7,8,9,10,11,12,13,14,15,16,17] none [] (by kernel_rfl) (by kernel_rfl) ?_;refine z_m ?_;refine z_m ?_;refine ZAA rfl rfl rfl rfl rfl (fun _=>A_ix (k:=j) Und.h Tsz.h rfl rfl) ?_;refine z_f ?_;refine z_l ?_;refine z_f ?_;refine z_l ?_;refine ZAA rfl rfl rfl rfl rfl (fun _=>A_tt he (ZAV rfl rfl)) ?_;refine z_m ?_;refine g_m ?_;refine g_m ?_
  first|refine ZAO rfl rfl rfl rfl ?_|refine ZAA rfl rfl rfl rfl rfl (fun _=>A_ix (k:=j) Und.h Tsz.h rfl rfl) ?_
  refine g_f ?_;refine g_l ?_;refine g_f ?_;refine g_l ?_
  first|refine ZAO rfl rfl rfl rfl ?_|refine ZAA rfl rfl rfl rfl rfl (fun _=>A_tt hn (ZAt rfl rfl)) ?_
  refine z_p ?_;refine ZAY (ZAB rfl) nb' ?_;refine zy ?_;refine ZAF (ZAH rfl ⟨?_,hE1⟩);have:ZM5 l k=false:=decide_eq_false fun q=>q x hmem (by unfold WkR.key;rw[he,hn]);rw[this];rfl
 ·refine zy ?_
  refine ZAQ hmix [0,0,3,7,15,0,32,127,255,511,511,2047,4095,8191,511,16895,65535,131071] [0,1,2,3,4,5,6,7,8,9,10,11,12,13,14,15,16,17] none [] (by kernel_rfl) (by kernel_rfl) ?_;refine z_m ?_;refine z_m ?_;refine ZAA rfl rfl rfl rfl rfl (fun _=>A_ix (k:=j) Und.h Tsz.h rfl rfl) ?_;refine z_f ?_;refine z_l ?_;refine z_f ?_;refine z_l ?_;refine ZAA rfl rfl rfl rfl rfl (fun _=>A_tt he (ZAV rfl rfl)) ?_;refine z_m ?_;refine g_m ?_;refine g_m ?_
  first|refine ZAO rfl rfl rfl rfl ?_|refine ZAA rfl rfl rfl rfl rfl (fun _=>A_ix (k:=j) Und.h Tsz.h rfl rfl) ?_
  refine g_f ?_;refine g_l ?_;refine g_f ?_;refine g_l ?_
  first|refine ZAO rfl rfl rfl rfl ?_|refine ZAA rfl rfl rfl rfl rfl (fun _=>A_ff hn (ZAt rfl rfl)) ?_
  refine z_p ?_;refine ZAY (ZAB rfl) nb' ?_;refine zy ?_;refine⟨j+1,(by show l.length-(j+1)<l.length-j;omega),rfl,rfl,hj',?_,rfl,rfl,rfl,trivial⟩;intro y hy;rw[htk,List.mem_append,List.mem_singleton] at hy
  rcases hy with hy|rfl
  ·exact hno y hy
  ·exact fun q=>hn (congrArg Prod.snd q)
set_option maxHeartbeats 1000000 in
theorem ZSG {a:Option Addr}{cap:Nat}{l:List WkR}{x:WkR}{h:Heap}(hR:SrcK rowW 6 h a l)(hb:l.length*72<=140737488351232):Sv Tryz.prog 31 [.slice a l.length cap,.agg ⟨rowW x⟩] h (RetP fun v h'=>ZAD h h' v 44 6 ((l++[x]).flatMap rowW) (l++[x]).length/\Ext h h'):=by
 refine ZC1 fun hw=>?_;refine ZAG Tryz.func31 rfl (by rw[Tryz.ntmps31];rfl) ?_;show Wc Tryz.prog ⟨31,11,none⟩ _ _ _ _ _;refine zy ?_;refine ZBU rfl rfl rfl fun h1 hE1 hW1 hg1 hn1=>?_;have hnx:=hE1.2.1;generalize h.nx=b1 at hg1 hnx ⊢;have hEa0:=Ext.add hW1 (.cells [] 44 false);have hEa:=hEa0.trans (Ext.rsv (Heap.add h1 (.cells [] 44 false)));have hOa0:Own h1 (Heap.add h1 (.cells [] 44 false)) [slI h1 (.slice (some ⟨h1.nx,0,none⟩) 0 0) 44 6 [] 0]:=(Own.nil h1 h1).newSl hW1 (Nat.le_refl _) hEa0 (ZAD.lit Heap.get_add_same rfl (Nat.le_refl _));have hne:=hOa0.ne (hW1.add _) (Nat.le_refl (h1.nx+1));have hz1:=SrcK.src (P:=Tryz.prog) (enc:=rowW) (k:=6) (cap:=cap) (dd:=.slice 44) (by decide) (fun _=>rfl) ((hR.ext hE1).ext hEa) Und.h (by intro k;simp) (tX:=22) (el:=44)
 have hga:=hEa.get hg1;refine zy ?_;refine ZAQ hmix [0,0,3,0,8,31,63] [0,1,3,4] (some 2) [([],(some 5)),([],(some 6)),([],none)] (by kernel_rfl) (by kernel_rfl) ?_;refine ZGO (nk:=.sl _ _) rfl rfl rfl rfl rfl (fun _ _ hs=>N_bs hs Und.h Tsz.h Zr.h rfl rfl rfl rfl rfl) ?_;refine z_m ?_;refine z_r ?_;refine ZGO (nk:=.sl _ _) rfl rfl rfl rfl rfl (fun _ _ hs=>N_bs hs Und.h Tsz.h Zr.h rfl rfl rfl rfl rfl) ?_;refine ZAN (h1:=(rsv (Heap.add h1 _))) [0,1] (by kernel_rfl) rfl (ZAB rfl) rfl rfl (kF (kF (dF (dF nF)))) (ZCU (ZNk (n1:=h1.nx+1) (by':=72) (sz:=6) (k:=l.length) (n:=0) (l:=l.flatMap rowW) rfl hW1 hEa rfl rfl rfl rfl Und.h inferInstance rfl rfl (hOa0.ext (Ext.rsv _)) hz1 (by rw[ZBA (enc:=rowW) (k:=6) (fun _=>rfl)]) (ZGy _) (by omega) (by omega) hne (Nat.lt_succ_self _) (fun v12 h12 hO13 hE12 hne12 hn12 hw12=>?_)))
 have hU12:=Upd.mk' h12 (h1.nx+1) (.cells (rowW x) 44 false);have hO13':=hO13.other (.cells (rowW x) 44 false) hne12;have hE12':=hU12.ext hE12 hW1 (Nat.le_succ _);have hg12:=hE12.get hg1;have hg12':=hE12'.get hg1;rw[List.nil_append,Nat.zero_add] at hO13';refine ZAN (h1:=(h12.set (h1.nx+1) (.cells (rowW x) 44 false))) [0,1,2,3,4] (by kernel_rfl) rfl (by refine ZPr (i:=4) (nk:=.sl _ _) rfl rfl rfl rfl rfl (fun _ _ hs=>N_bs hs Und.h Tsz.h Zr.h rfl rfl rfl rfl rfl) rfl ?_;refine t_r 3 ?_;exact ZAB rfl) rfl rfl (dF (dF nF)) (ZCU (ZDF (by':=72) (sz:=6) (k:=1) (n:=l.length) (l:=rowW x) rfl hW1 hE12' rfl rfl rfl rfl Und.h inferInstance rfl rfl hO13' ((ZAD.lit (h0:=h1) (n:=1) (sz:=6) hU12.at' rfl (Nat.le_succ _)).src (dd:=.slice 44) Und.h (by intro k;simp)) rfl rfl (by omega) (by omega) (fun v14 h14 hO15 hE14 hw14=>?_)))
 refine ZAN (h1:=h14) [0,1,2,3,4,5] (by kernel_rfl) rfl (ZAB rfl) rfl rfl nF (ZEU rfl rfl (ZBL rfl) ?_);refine ZAY (h1:=h14) (ZAB rfl) rfl ?_;refine zy ?_;refine ZAF (ZAH rfl ⟨?_,hE1.trans hE14⟩);have hF:ZAD h1 h14 v14 44 6 (l.flatMap rowW++rowW x) (l.length+1):=hO15.p1;rw[List.flatMap_append,List.flatMap_singleton,List.length_append];exact hF.base hE1.2.1
end Go.Dw
namespace Go.Dw
open Go Go.Dx Go.Proofs
set_option maxRecDepth 100000
set_option maxHeartbeats 4000000 in
theorem ZGu {a:Option Addr}{cap:Nat}{l:List WkR}{x0:WkR}{h:Heap}(hR:SrcK rowW 6 h a l)(hn:a=none->l=[]/\cap=0)(hf:∀x∈l,x.Fit)(hb:l.length*72<=140737488351232)(hx0:x0.Fit)(hL:WkLib h) :
  Sv Tryz.prog 7 [.slice a l.length cap,.agg ⟨rowW x0⟩] h (RetP fun v h'=>v=.bool true/\Ext h h'):=by
 refine ZC1 fun hw=>?_;have hlen:Len l:=by show l.length<_;omega
 obtain⟨x,ex⟩:∃x:WkR,x=⟨x0.archive,x0.number,x0.day,6,x0.a,x0.b⟩:=⟨_,rfl⟩;have hxF:x.Fit:=by rw[ex];exact⟨hx0.1,hx0.2,hx0.3⟩
 have hx6:x.kind=6:=by rw[ex]
 have hrow:[str x0.archive,i64 x0.number,i64 x0.day,i64 6,str x0.a,str x0.b]=rowW x:=by rw[ex]
 have hlen1:(l++[x]).length=l.length+1:=by rw[List.length_append];rfl
 refine ZAG Tryz.func7 rfl (by rw[Tryz.ntmps7];rfl) ?_;show Wc Tryz.prog ⟨7,102,none⟩ _ _ _ _ _;refine zy ?_;refine ZBU rfl rfl rfl fun h1 hE1 hW1 hg1 hn1=>?_;have hO1:=(Own.nil h h).newCe hw (Nat.le_refl _) hE1 hg1 (Nat.le_refl _);generalize h.nx=b3 at hO1 hg1 ⊢;refine zy ?_;refine ZDP (r:=[str x0.archive,i64 x0.number,i64 x0.day,i64 6,str x0.a,str x0.b]) hw hE1 rfl Tsz.h rfl rfl hO1 rfl rfl rfl fun h2 hW2 hO2 hE2=>?_;have hg2:h2.get b3=some (.cells (rowW x) 44 false):=by rw[<-hrow];exact hO2.p1
 clear hO1 hO2 hg1 hrow hn1;refine zy ?_;refine ZAI rfl rfl rfl rfl rfl Bod.h rfl rfl (ZBj (hR.ext hE2) hn hf hlen (hL.ext hE2)) ?_;rintro _ h3 ⟨⟨aS,nS,cS,aF,nF,cF,rfl,hcB,-⟩,hE23⟩;have hE3:=hE2.trans hE23;have hg3:=hE23.get hg2;generalize hA:(chkS l).2=ec at *;refine zy ?_;refine ZAI rfl rfl rfl rfl rfl Bod.h rfl rfl (ZSG (x:=x) (hR.ext hE3) hb) ?_;rintro v4 h4 ⟨hF4,hE34⟩;have hE4:=hE3.trans hE34;have hg4:=hE34.get hg3;obtain⟨a4,rfl,hS4,hn4⟩:=ZAD.rowsAt (enc:=rowW) (k:=6) (fun _=>rfl) hF4 rfl;refine zy ?_
 refine ZAI rfl rfl rfl rfl rfl Bod.h rfl rfl (ZBj hS4 (fun e=>absurd (hn4 e) (by simp)) (fun y hy=>by
  rcases List.mem_append.1 hy with hy|hy
  ·exact hf y hy
  ·rw[List.mem_singleton.1 hy];exact hxF) (show _<_ by rw[hlen1];omega) (hL.ext hE4)) ?_
 rintro _ h5 ⟨⟨aT,nT,cT,aQ,nQ,cQ,rfl,hdB,-⟩,hE45⟩;have hE5:=hE4.trans hE45;have hg5:=hE45.get hg4;generalize (chkS (l++[x])).2=ed at *;clear hF4 hS4 hn4;refine zy ?_
 by_cases hc0:ec=0
 rotate_left
 ·refine ZAC rfl rfl rfl rfl (A_tt hc0 (ZAy rfl rfl)) ?_
  refine zy ?_;refine ZAT rfl rfl rfl rfl rfl Bod.h rfl rfl (ZA6 (hL.ext hE5)) fun h6 hE6=>?_;refine zy ?_;exact ZAF (ZAH rfl ⟨rfl,hE5.trans hE6⟩)
 refine ZAC rfl rfl rfl rfl (A_ff (fun q=>q hc0) (ZAy rfl rfl)) ?_;refine zy ?_
 by_cases hd0:ed=0
 rotate_left
 ·refine ZAC rfl rfl rfl rfl (A_tt hd0 (ZAy rfl rfl)) ?_
  refine zy ?_;refine ZAT rfl rfl rfl rfl rfl Bod.h rfl rfl (ZA6 (hL.ext hE5)) fun h6 hE6=>?_;refine zy ?_;exact ZAF (ZAH rfl ⟨rfl,hE5.trans hE6⟩)
 refine ZAC rfl rfl rfl rfl (A_ff (fun q=>q hd0) (ZAy rfl rfl)) ?_;refine zy ?_;refine ZAT rfl rfl rfl rfl rfl Bod.h rfl rfl (ZRo (k:=x) ((hR.ext hE5).1) hlen) fun h6 hE56=>?_;have hE6:=hE5.trans hE56;have hg6:=hE56.get hg5
 cases hfr:ZM5 l x with
 | false =>
  refine zy ?_;refine ZAT rfl rfl rfl rfl rfl Bod.h rfl rfl (ZA6 (hL.ext hE6)) fun h7 hE7=>?_;refine zy ?_;exact ZAF (ZAH rfl ⟨rfl,hE6.trans hE7⟩)
 | true =>
 have hfresh:∀y∈l,y.key≠x.key:=of_decide_eq_true hfr;obtain⟨hl1,hl2,hl3⟩:=ZMI hfresh hx6;have hforg:ZAz (mrgU ltW (l++[x]))=ZAz (mrgU ltW l):=ZOM hfresh;have hlA:l.length<=200:=ZCB (hA.trans hc0);obtain⟨rfl,rfl,hSS,hSF⟩:=hcB hc0;obtain⟨rfl,rfl,hTS,hTQ⟩:=hdB hd0;have hSl:(ZAJ (mrgU ltW l)).length<=200:=Nat.le_trans (ZCL l) hlA;have hTl:(ZAJ (mrgU ltW (l++[x]))).length<=201:=Nat.le_trans (ZCL _) (by rw[hlen1];omega);have hFl:(ZAz (mrgU ltW l)).length<=200:=Nat.le_trans (Nat.le_trans (ZHc _) (ZDV ZAR l)) hlA;rw[hforg] at hTQ ⊢;replace hSS:=((hSS.ext hE34).ext hE45).ext hE56;replace hSF:=((hSF.ext hE34).ext hE45).ext hE56
 replace hTS:=hTS.ext hE56;replace hTQ:=hTQ.ext hE56;clear hcB hdB hA hc0 hd0 hE56 hE45 hE34 hE23 hg5 hg4 hg3 hg2 hforg
 change ∀r∈ZAJ (mrgU ltW (l++[x])),r∈ZAJ (mrgU ltW l)/\r.kind≠6 at hl1
 change ∀r∈ZAJ (mrgU ltW l),r ∉ ZAJ (mrgU ltW (l++[x]))->r.archive=x.archive/\x.a=x.archive at hl2
 change ((ZAJ (mrgU ltW l)).filter fun r=>decide (r ∉ ZAJ (mrgU ltW (l++[x])))).length<=1 at hl3
 generalize ZAJ (mrgU ltW l)=S at *;generalize ZAJ (mrgU ltW (l++[x]))=T at *;generalize ZAz (mrgU ltW l)=F at *;refine zy ?_;refine ZAS (fun (j:Nat) m ds h'=>ds=[]/\Ext h6 h'/\j<=T.length/\AllK m [(3,.pointer (some ⟨b3,0,none⟩)),(5,.slice aS S.length cS),(6,.slice aF F.length cF),(8,.slice aT T.length cT),(9,.slice aQ F.length cQ),(11,i64 (j:Nat))]) (fun j=>T.length-j) 0 ?_ ?_
 ·exact⟨rfl,Ext.refl _,Nat.zero_le _,rfl,rfl,rfl,rfl,rfl,rfl,trivial⟩
 rintro j m ds h7 ⟨rfl,hE7,hj,hall⟩;refine Wc.le ?_ (Le.kn hall);clear hall;refine zy ?_;refine ZAW rfl rfl rfl rfl (ZAd rfl rfl) (fun hjl=>?_) (fun hjl=>?_)
 ·have hj':j<T.length:=by omega
  obtain⟨b,o,oa,rfl,row,hr0,hx⟩:=hTS.1 j hj';have hr:=hE7.row hr0;have e1:row=rowW T[j]:=hx;obtain⟨g1,g2⟩:=hl1 _ (List.getElem_mem hj');clear hx hr0;generalize T[j]=y at *;subst e1;refine zy ?_;refine ZAC rfl rfl rfl rfl (A_ix Und.h Tsz.h rfl rfl) ?_;refine zy ?_;refine ZAT rfl rfl rfl rfl rfl Bod.h rfl rfl (ZHw (k:=y) ((hSS.ext hE7).1) (show _<_ by omega)) fun h8 hE8=>?_;rw[decide_eq_true g1];have hr8:=hE8.row hr;have hk:ZAZ h8 b (o+j*6+3)=some (i64 y.kind):=ZAM (k:=3) hr8 rfl;refine zy ?_;refine ZAC rfl rfl rfl rfl (A_ix Und.h Tsz.h rfl rfl) ?_;refine zy ?_;refine ZAC rfl rfl rfl rfl (A_ff g2 (ZAt rfl rfl)) ?_
  refine zy ?_;exact⟨j+1,(by show T.length-(j+1)<T.length-j;omega),rfl,hE7.trans hE8,hj',rfl,rfl,rfl,rfl,rfl,rfl,trivial⟩
 clear hj hjl;have hE37:=hE6.trans hE7;replace hSS:=hSS.ext hE7;replace hSF:=hSF.ext hE7;replace hTS:=hTS.ext hE7;replace hTQ:=hTQ.ext hE7;have hg7:=hE7.get hg6;clear hE7 hE6 hg6 hE5 hE4 hE3 hE2 hE1;refine zy ?_;refine ZAS (fun (j:Nat) m ds h'=>ds=[]/\Ext h7 h'/\j<=S.length/\AllK m [(3,.pointer (some ⟨b3,0,none⟩)),(5,.slice aS S.length cS),(6,.slice aF F.length cF),(8,.slice aT T.length cT),(9,.slice aQ F.length cQ),(12,i64 (((S.take j).filter fun r=>decide (r ∉ T)).length:Nat)),(13,i64 (j:Nat))]) (fun j=>S.length-j) 0 ?_ ?_
 ·exact⟨rfl,Ext.refl _,Nat.zero_le _,rfl,rfl,rfl,rfl,rfl,rfl,rfl,trivial⟩
 rintro j m ds h8 ⟨rfl,hE8,hj,hall⟩;refine Wc.le ?_ (Le.kn hall);clear hall;refine zy ?_;refine ZAW rfl rfl rfl rfl (ZAd rfl rfl) (fun hjl=>?_) (fun hjl=>?_);rotate_left
 ·have:j=S.length:=by omega
  subst this;rw[List.take_length];generalize ((S.filter fun r=>decide (r ∉ T)).length)=n at *;refine zy ?_;refine ZAC rfl rfl rfl rfl (A_tt (by omega) (ZFr rfl rfl)) ?_;refine zy ?_;refine ZAa rfl rfl rfl rfl rfl Bod.h rfl rfl (ZKd (hSF.ext hE8).1 (hTQ.ext hE8).1 (show _<_ by omega)) ?_;refine zy ?_;refine ZAT rfl rfl rfl rfl rfl Bod.h rfl rfl (ZA6 (hL.ext (hE37.trans hE8))) fun h9 hE9=>?_;refine zy ?_;exact ZAF (ZAH rfl ⟨rfl,(hE37.trans hE8).trans hE9⟩)
 have hj':j<S.length:=by omega
 have htk:S.take (j+1)=S.take j++[S[j]]:=by rw[List.take_add_one,List.getElem?_eq_getElem hj'];rfl
 obtain⟨b,o,oa,rfl,row,hr0,hx⟩:=hSS.1 j hj';have hr:=hE8.row hr0;have e1:row=rowW S[j]:=hx;have g1:=hl2 _ (List.getElem_mem hj');clear hx hr0;generalize S[j]=y at *;subst e1;have hcl:(S.take j).length<=200:=by rw[List.length_take];omega
 have hcn:((S.take j).filter fun r=>decide (r ∉ T)).length<=200:=Nat.le_trans (List.length_filter_le _ _) hcl;have htf:((S.take (j+1)).filter fun r=>decide (r ∉ T)).length=((S.take j).filter fun r=>decide (r ∉ T)).length+if y ∉ T then 1 else 0:=by
  rw[htk,List.filter_append,List.length_append]
  by_cases q:y∈T <;> simp[q]
 refine zy ?_;refine ZAC rfl rfl rfl rfl (A_ix Und.h Tsz.h rfl rfl) ?_;refine zy ?_;refine ZAT rfl rfl rfl rfl rfl Bod.h rfl rfl (ZHw (k:=y) ((hTS.ext hE8).1) (show _<_ by omega)) fun h9 hE9=>?_;have hE89:=hE8.trans hE9
 by_cases hyT:y∈T
 ·rw[decide_eq_true hyT]
  rw[if_neg (fun q=>q hyT),Nat.add_zero] at htf;refine zy ?_;exact⟨j+1,(by show S.length-(j+1)<S.length-j;omega),rfl,hE89,hj',rfl,rfl,rfl,rfl,rfl,(by rw[htf];rfl),rfl,trivial⟩
 rw[decide_eq_false hyT];rw[if_pos hyT] at htf;obtain⟨q1,q2⟩:=g1 hyT;have hr9:=hE9.row hr;have hk0:ZAZ h9 b (o+j*6+0)=some (str y.archive):=ZAM (k:=0) hr9 rfl;have hg9:=hE89.get hg7;have hb0:ZAZ h9 b3 (0+0)=some (str x.archive):=ZAb hg9 rfl;have hb4:ZAZ h9 b3 (0+4)=some (str x.a):=ZAb hg9 rfl;generalize ((S.take j).filter fun r=>decide (r ∉ T)).length=n at *;refine zy ?_;refine ZAQ hmix [0,0,3,7,15,0,32,127,255,511,1023,511,2559,8191,16383] [0,1,2,3,4,5,6,7,8,9,10,11,12,13,14] none [] (by kernel_rfl) (by kernel_rfl) ?_;refine z_m ?_;refine z_m ?_;refine ZAA rfl rfl rfl rfl rfl (fun _=>A_ix (k:=j) Und.h Tsz.h rfl rfl) ?_;refine z_f ?_;refine z_l ?_;refine z_f ?_;refine z_l ?_;refine ZAA rfl rfl rfl rfl rfl (fun _=>A_ff (fun q=>q q1) (ZAj rfl rfl)) ?_;refine z_m ?_;refine g_f ?_;refine g_l ?_;refine g_f ?_;refine g_l ?_
 first|refine ZAO rfl rfl rfl rfl ?_|refine ZAA rfl rfl rfl rfl rfl (fun _=>A_ff (fun q=>q q2) (ZAj rfl rfl)) ?_
 refine z_p ?_;refine ZAY (ZAB rfl) nb' ?_;refine zy ?_;exact⟨j+1,(by show S.length-(j+1)<S.length-j;omega),rfl,hE89,hj',rfl,rfl,rfl,rfl,rfl,(by rw[htf];rfl),rfl,trivial⟩
end Go.Dw
namespace Go.Dw
open Go Go.Dx Go.Proofs
set_option maxRecDepth 100000
def setA (a:Str)(x:WkR):WkR:=⟨a,x.number,x.day,x.kind,x.a,x.b⟩
set_option maxHeartbeats 4000000 in
theorem ZHp {a ao:Option Addr}{cap co:Nat}{l o:List WkR}{ar:Str}{h:Heap}(hR:SrcK rowW 6 h a l)(hn:a=none->l=[]/\cap=0)(hf:∀x∈l,x.Fit)(hb:l.length*72<=140737488351232)(hRo:SrcK rowW 6 h ao o)(hfo:∀x∈o,x.Fit)(hlo:Len o)(har:ar.length<=140737488351232)(hL:WkLib h) :
  Sv Tryz.prog 8 [.slice a l.length cap,.slice ao o.length co,str ar] h (RetP fun v h'=>v=.bool true/\Ext h h'):=by
 refine ZC1 fun hw=>?_;have hlen:Len l:=by show l.length<_;omega
 refine ZAG Tryz.func8 rfl (by rw[Tryz.ntmps8];rfl) ?_;show Wc Tryz.prog ⟨8,111,none⟩ _ _ _ _ _;refine zy ?_;refine ZAI rfl rfl rfl rfl rfl Bod.h rfl rfl (ZBj hR hn hf hlen hL) ?_;rintro _ h1 ⟨⟨aS,nS,cS,aF,nF,cF,rfl,hcB,-⟩,hE1⟩;generalize hA:(chkS l).2=ec at *;refine zy ?_;refine ZAS (fun (j:Nat) m ds h'=>ds=[]/\h1=h'/\j<=l.length/\(∀y∈l.take j,y.archive≠ar)/\AllK m [(0,.slice a l.length cap),(1,.slice ao o.length co),(2,str ar),(7,.slice aS nS cS),(8,.slice aF nF cF),(9,i64 ec),(10,i64 (j:Nat))]) (fun j=>l.length-j) 0 ?_ ?_
 ·exact⟨rfl,rfl,Nat.zero_le _,by simp,rfl,rfl,rfl,rfl,rfl,rfl,rfl,trivial⟩
 rintro j m ds h' ⟨rfl,rfl,hj,hno,hall⟩;refine Wc.le ?_ (Le.kn hall);clear hall;refine zy ?_;refine ZAW rfl rfl rfl rfl (ZAd rfl rfl) (fun hjl=>?_) (fun hjl=>?_)
 ·have hj':j<l.length:=by omega
  obtain⟨b,o1,oa,rfl,row,hr0,hx⟩:=hR.1 j hj';have hr:=hE1.row hr0;have e1:row=rowW l[j]:=hx;have htk:l.take (j+1)=l.take j++[l[j]]:=by rw[List.take_add_one,List.getElem?_eq_getElem hj'];rfl
  clear hx hr0;generalize l[j]=x at *;subst e1;have hc0:ZAZ h1 b (o1+j*6+0)=some (str x.archive):=ZAM (k:=0) hr rfl;refine zy ?_;refine ZAC rfl rfl rfl rfl (A_ix Und.h Tsz.h rfl rfl) ?_;refine zy ?_
  by_cases he:x.archive=ar
  ·refine ZAC rfl rfl rfl rfl (A_tt he (ZAV rfl rfl)) ?_
   refine zy ?_;refine ZAT rfl rfl rfl rfl rfl Bod.h rfl rfl (ZA6 (hL.ext hE1)) fun h6 hE6=>?_;refine zy ?_;exact ZAF (ZAH rfl ⟨rfl,hE1.trans hE6⟩)
  ·refine ZAC rfl rfl rfl rfl (A_ff he (ZAV rfl rfl)) ?_
   refine zy ?_;refine⟨j+1,(by show l.length-(j+1)<l.length-j;omega),rfl,rfl,hj',?_,rfl,rfl,rfl,rfl,rfl,rfl,rfl,trivial⟩;intro y hy;rw[htk,List.mem_append,List.mem_singleton] at hy
   rcases hy with hy|rfl
   ·exact hno y hy
   ·exact he
 have hj2:j=l.length:=by omega
 subst hj2;rw[List.take_length] at hno;clear hj hjl;refine ZBR fun hw1=>?_;refine zy ?_;refine ZBn rfl rfl Und.h Tsz.h Zr.h rfl rfl rfl rfl rfl fun h2 hE12 hW2 hg2 hn2=>?_;have hO2:Own h1 h2 [slI h1 (.slice (some ⟨h1.nx,0,none⟩) 0 0) 44 6 [] 0]:=(Own.nil h1 h1).newSl hw1 (Nat.le_refl _) hE12 (ZAD.lit hg2 rfl (Nat.le_refl _));refine zy ?_;refine ZA5 (k:=l.length) (l:=l.flatMap rowW) hw1 hE12 rfl rfl rfl rfl rfl Und.h inferInstance rfl rfl hO2 (SrcK.src (enc:=rowW) (k:=6) (dd:=.slice 44) (by decide) (fun _=>rfl) ((hR.ext hE1).ext hE12) Und.h (by intro k;simp)) (by rw[ZBA (enc:=rowW) (k:=6) (fun _=>rfl)]) (ZGy _) (by omega) (by omega) fun v3 h3 hW3 hO3 hE3=>?_
 rw[List.nil_append,Nat.zero_add] at hO3;clear hO2 hg2 hn2 hE12 hW2;refine zy ?_;refine ZAS (fun (st:Nat×Value) m ds h'=>ds=[]/\Ext h1 h'/\st.1<=o.length/\st.1<=200/\Own h1 h' [slI h1 st.2 44 6 ((l++(o.take st.1).map (setA ar)).flatMap rowW) (l.length+st.1)]/\AllK m [(1,.slice ao o.length co),(2,str ar),(7,.slice aS nS cS),(8,.slice aF nF cF),(9,i64 ec),(11,st.2),(12,i64 (st.1:Nat))]) (fun st=>201-st.1) (0,v3) ?_ ?_
 ·refine⟨rfl,hE3,Nat.zero_le _,Nat.zero_le _,?_,rfl,rfl,rfl,rfl,rfl,rfl,rfl,trivial⟩
  simp only[List.take_zero,List.map_nil,List.append_nil,Nat.add_zero];exact hO3
 clear hO3 hE3 hW3;rintro⟨i,v⟩ m ds h4 ⟨rfl,hE4,hi,hi2,hO4,hall⟩;refine Wc.le ?_ (Le.kn hall);clear hall;simp only at hi hi2 hO4 ⊢;have hlen4:(l++(o.take i).map (setA ar)).length=l.length+i:=by rw[List.length_append,List.length_map,List.length_take];omega
 refine ZDu (Wc.mono (Q:=fun z m' ds' h'=>ds'=[]/\h4=h'/\AllK m' [(1,.slice ao o.length co),(2,str ar),(7,.slice aS nS cS),(8,.slice aF nF cF),(9,i64 ec),(11,v),(12,i64 (i:Nat))]/\((z=.normal/\i<o.length/\i<200)\/(z=.exit 2/\¬(i<o.length/\i<200)))) ?_ ?_)
 ·by_cases q1:i<o.length
  ·refine zy ?_
   refine ZAC rfl rfl rfl rfl (A_tt (by omega) (ZAd rfl rfl)) ?_
   by_cases q2:i<200
   ·refine zy ?_
    refine ZAC rfl rfl rfl rfl (A_tt (by omega) (ZAd rfl rfl)) ?_;refine zy ?_;exact⟨rfl,rfl,⟨rfl,rfl,rfl,rfl,rfl,rfl,rfl,trivial⟩,.inl ⟨rfl,q1,q2⟩⟩
   ·refine zy ?_
    refine ZAC rfl rfl rfl rfl (A_ff (by omega) (ZAd rfl rfl)) ?_;refine zy ?_;exact⟨rfl,rfl,⟨rfl,rfl,rfl,rfl,rfl,rfl,rfl,trivial⟩,.inr ⟨rfl,fun q=>q2 q.2⟩⟩
  ·refine zy ?_
   refine ZAC rfl rfl rfl rfl (A_ff (by omega) (ZAd rfl rfl)) ?_;refine zy ?_;exact⟨rfl,rfl,⟨rfl,rfl,rfl,rfl,rfl,rfl,rfl,trivial⟩,.inr ⟨rfl,fun q=>q1 q.1⟩⟩
 rintro z m _ _ ⟨rfl,rfl,hall,(⟨rfl,hj',hi200⟩|⟨rfl,hcond⟩)⟩
 ·show Wc _ _ _ _ _ _ _
  refine Wc.le ?_ (Le.kn hall);clear hall;refine ZGY fun hw4=>?_;obtain⟨b,o1,oa,rfl,row,hr0,hx⟩:=hRo.1 i hj';have hr:=(hE1.trans hE4).row hr0;have e1:row=rowW o[i]:=hx;have htk:o.take (i+1)=o.take i++[o[i]]:=by rw[List.take_add_one,List.getElem?_eq_getElem hj'];rfl
  clear hx hr0;generalize o[i]=x at *;subst e1;refine zy ?_;refine ZAC rfl rfl rfl rfl (A_ix Und.h Tsz.h rfl rfl) ?_;refine zy ?_;refine ZAP rfl rfl Zr.h Tsz.h rfl (fun _=>rfl) rfl rfl rfl fun h5 hE5 hW5 hg5 hn5=>?_;have hO5:=hO4.newCe hw4 hE4.2.1 hE5 hg5 (Nat.le_refl _);have hE45:=hE4.trans hE5;generalize h4.nx=bx at hO5 hg5 ⊢;refine zy ?_;refine ZDP (r:=rowW (setA ar x)) hw1 hE45 rfl Tsz.h rfl rfl hO5 rfl rfl rfl fun h6 hW6 hO6 hE6=>?_;have hg6:h6.get bx=some (.cells (rowW (setA ar x)) 44 false):=hO6.p1;refine zy ?_;refine ZBn rfl rfl Und.h Tsz.h Zr.h rfl rfl rfl rfl rfl fun h7 hE7 hW7 hg7 hn7=>?_
  refine zy ?_;refine ZA5 (k:=1) (l:=rowW (setA ar x)) hw1 (hE6.trans hE7) rfl rfl rfl rfl rfl Und.h inferInstance rfl rfl ((hO6.ext hE7).up2) (ZBB Und.h (by intro k;simp) (ZAg hg7 rfl)) rfl rfl (by omega) (by omega) fun v8 h8 hW8 hO8 hE8=>?_;refine zy ?_;refine⟨(i+1,v8),(by show 201-(i+1)<201-i;omega),rfl,hE8,hj',hi200,?_,rfl,rfl,rfl,rfl,rfl,rfl,rfl,trivial⟩;simp only;have e2:((l++(o.take (i+1)).map (setA ar)).flatMap rowW)=(l++(o.take i).map (setA ar)).flatMap rowW++rowW (setA ar x):=by
   rw[htk,List.map_append,<-List.append_assoc,List.flatMap_append];simp
  rw[e2];exact hO8.sub (.cons_cons _ (List.nil_sublist _))
 show Wc _ _ _ _ _ _ _
 refine Wc.le ?_ (Le.kn hall);clear hall;have hiE:o.take i=o.take 200:=by
  rcases Nat.lt_or_ge i o.length with q|q
  ·have:i=200:=by omega
   rw[this]
  ·rw[List.take_of_length_le q,List.take_of_length_le (by omega)]
 rw[hiE] at hO4 hlen4;obtain⟨a5,rfl,hS5,hn5⟩:=ZAD.rowsAt (enc:=rowW) (k:=6) (fun _=>rfl) (show ZAD h1 h4 v 44 6 ((l++(o.take 200).map (setA ar)).flatMap rowW) (l.length+i) from hO4.p1) hlen4.symm
 have hfor:∀y∈(o.take 200).map (setA ar),y.archive=ar:=fun y hy=>by
  obtain⟨z,-,rfl⟩:=List.mem_map.1 hy;rfl
 have hfit:∀y∈l++(o.take 200).map (setA ar),y.Fit:=fun y hy=>by
  rcases List.mem_append.1 hy with hy|hy
  ·exact hf y hy
  ·obtain⟨z,hz,rfl⟩:=List.mem_map.1 hy
   have:=hfo z (List.mem_of_mem_take hz);exact⟨by show ar.length<=_;omega,this.2,this.3⟩
 generalize (o.take 200).map (setA ar)=O at *;clear hO4 hcond hiE;refine zy ?_;refine ZAI rfl rfl rfl rfl rfl Bod.h rfl rfl (ZBj (l:=l++O) hS5 (fun e=>⟨hn5 e,by rw[<-List.length_eq_zero_iff.2 (hn5 e)]⟩) hfit (show _<_ by rw[hlen4];omega) (hL.ext (hE1.trans hE4))) ?_;rintro _ h6 ⟨⟨aT,nT,cT,aQ,nQ,cQ,rfl,hdB,-⟩,hE46⟩;have hE16:=hE4.trans hE46;have hE6:=hE1.trans hE16;have hchk:(chkS (l++O)).2=0->(l++O).length<=200:=ZCB;generalize (chkS (l++O)).2=ed at *;refine zy ?_
 by_cases hc0:ec=0
 rotate_left
 ·refine ZAC rfl rfl rfl rfl (A_tt hc0 (ZAy rfl rfl)) ?_
  refine zy ?_;refine ZAT rfl rfl rfl rfl rfl Bod.h rfl rfl (ZA6 (hL.ext hE6)) fun h7 hE7=>?_;refine zy ?_;exact ZAF (ZAH rfl ⟨rfl,hE6.trans hE7⟩)
 refine ZAC rfl rfl rfl rfl (A_ff (fun q=>q hc0) (ZAy rfl rfl)) ?_;refine zy ?_
 by_cases hd0:ed=0
 rotate_left
 ·refine ZAC rfl rfl rfl rfl (A_tt hd0 (ZAy rfl rfl)) ?_
  refine zy ?_;refine ZAT rfl rfl rfl rfl rfl Bod.h rfl rfl (ZA6 (hL.ext hE6)) fun h7 hE7=>?_;refine zy ?_;exact ZAF (ZAH rfl ⟨rfl,hE6.trans hE7⟩)
 refine ZAC rfl rfl rfl rfl (A_ff (fun q=>q hd0) (ZAy rfl rfl)) ?_;have hlA:=hchk hd0;have hl1:=fun y (hy:y∈ZAJ (mrgU ltW l))=>ZJn hno hfor hy;have hl2:=ZJ8 hno hfor;obtain⟨rfl,rfl,hSS,hSF⟩:=hcB hc0;obtain⟨rfl,rfl,hTS,hTQ⟩:=hdB hd0;have hSl:(ZAJ (mrgU ltW l)).length<=200:=Nat.le_trans (ZCL l) (by rw[List.length_append] at hlA;omega);have hTl:(ZAJ (mrgU ltW (l++O))).length<=200:=Nat.le_trans (ZCL _) hlA;have hQl:(ZAz (mrgU ltW (l++O))).length<=200:=Nat.le_trans (Nat.le_trans (ZHc _) (ZDV ZAR _)) hlA;replace hSS:=hSS.ext hE16;replace hSF:=hSF.ext hE16;clear hcB hdB hA hc0 hd0 hE46 hS5 hchk hlA;generalize ZAJ (mrgU ltW l)=S at *
 generalize ZAJ (mrgU ltW (l++O))=T at *;generalize ZAz (mrgU ltW l)=F at *;generalize ZAz (mrgU ltW (l++O))=G at *;refine zy ?_;refine ZAS (fun (j:Nat) m ds h'=>ds=[]/\Ext h6 h'/\j<=S.length/\AllK m [(2,str ar),(7,.slice aS S.length cS),(8,.slice aF F.length cF),(14,.slice aT T.length cT),(15,.slice aQ G.length cQ),(17,i64 (j:Nat))]) (fun j=>S.length-j) 0 ?_ ?_
 ·exact⟨rfl,Ext.refl _,Nat.zero_le _,rfl,rfl,rfl,rfl,rfl,rfl,trivial⟩
 rintro j m ds h7 ⟨rfl,hE7,hj,hall⟩;refine Wc.le ?_ (Le.kn hall);clear hall;refine zy ?_;refine ZAW rfl rfl rfl rfl (ZAd rfl rfl) (fun hjl=>?_) (fun hjl=>?_)
 ·have hj':j<S.length:=by omega
  obtain⟨b,o,oa,rfl,row,hr0,hx⟩:=hSS.1 j hj';have hr:=hE7.row hr0;have e1:row=rowW S[j]:=hx;have g1:=hl1 _ (List.getElem_mem hj');clear hx hr0;generalize S[j]=y at *;subst e1;refine zy ?_;refine ZAC rfl rfl rfl rfl (A_ix Und.h Tsz.h rfl rfl) ?_;refine zy ?_;refine ZAT rfl rfl rfl rfl rfl Bod.h rfl rfl (ZHw (k:=y) ((hTS.ext hE7).1) (show _<_ by omega)) fun h8 hE8=>?_;rw[decide_eq_true g1];refine zy ?_;exact⟨j+1,(by show S.length-(j+1)<S.length-j;omega),rfl,hE7.trans hE8,hj',rfl,rfl,rfl,rfl,rfl,rfl,trivial⟩
 clear hj hjl;have hcnt:∀k,k<=G.length->((G.take k).filter fun z=>decide (z.1≠ar)).length<=200:=fun k hk=>Nat.le_trans (List.length_filter_le _ _) (by rw[List.length_take];omega);refine zy ?_;refine ZAS (fun (j:Nat) m ds h'=>ds=[]/\h7=h'/\j<=G.length/\AllK m [(2,str ar),(8,.slice aF F.length cF),(15,.slice aQ G.length cQ),(18,i64 (((G.take j).filter fun z=>decide (z.1≠ar)).length:Nat)),(19,i64 (j:Nat))]) (fun j=>G.length-j) 0 ?_ ?_
 ·exact⟨rfl,rfl,Nat.zero_le _,rfl,rfl,rfl,rfl,rfl,trivial⟩
 rintro j m ds h8 ⟨rfl,rfl,hj,hall⟩;refine Wc.le ?_ (Le.kn hall);clear hall;refine zy ?_;refine ZAW rfl rfl rfl rfl (ZAd rfl rfl) (fun hjl=>?_) (fun hjl=>?_);rotate_left
 ·have:j=G.length:=by omega
  subst this;rw[List.take_length,hl2];have hFl:F.length<=200:=by
   have:=hcnt G.length (Nat.le_refl _);rw[List.take_length,hl2] at this;exact this
  refine zy ?_;refine ZAC rfl rfl rfl rfl (A_tt rfl (ZAt rfl rfl)) ?_;refine zy ?_;refine ZAT rfl rfl rfl rfl rfl Bod.h rfl rfl (ZA6 (hL.ext (hE6.trans hE7))) fun h9 hE9=>?_;refine zy ?_;exact ZAF (ZAH rfl ⟨rfl,(hE6.trans hE7).trans hE9⟩)
 have hj':j<G.length:=by omega
 have htk:G.take (j+1)=G.take j++[G[j]]:=by rw[List.take_add_one,List.getElem?_eq_getElem hj'];rfl
 obtain⟨b,o,oa,rfl,row,hr0,hx⟩:=hTQ.1 j hj';have hr:=hE7.row hr0;have e1:row=rowK G[j]:=hx;have hcn:=hcnt j hj;clear hx hr0;generalize G[j]=y at *;subst e1;have hk0:ZAZ h7 b (o+j*2+0)=some (str y.1):=ZAM (k:=0) hr rfl;have htf:((G.take (j+1)).filter fun z=>decide (z.1≠ar)).length=((G.take j).filter fun z=>decide (z.1≠ar)).length+if y.1≠ar then 1 else 0:=by
  rw[htk,List.filter_append,List.length_append]
  by_cases q:y.1=ar <;> simp[q]
 generalize ((G.take j).filter fun z=>decide (z.1≠ar)).length=n at *;refine zy ?_;refine ZAC rfl rfl rfl rfl (A_ix Und.h Tsz.h rfl rfl) ?_;refine zy ?_
 by_cases hy:y.1=ar
 ·rw[if_neg (fun q=>q hy),Nat.add_zero] at htf
  refine ZAC rfl rfl rfl rfl (A_ff (fun q=>q hy) (ZAj rfl rfl)) ?_;refine zy ?_;exact⟨j+1,(by show G.length-(j+1)<G.length-j;omega),rfl,rfl,hj',rfl,rfl,rfl,(by rw[htf];rfl),rfl,trivial⟩
 ·rw[if_pos hy] at htf
  refine ZAC rfl rfl rfl rfl (A_tt hy (ZAj rfl rfl)) ?_;refine zy ?_;exact⟨j+1,(by show G.length-(j+1)<G.length-j;omega),rfl,rfl,hj',rfl,rfl,rfl,(by rw[htf];rfl),rfl,trivial⟩
theorem ZRq {M V:List Str}(hn:V.Nodup)(hm:∀k,k∈V ↔ k∈M):(V.mergeSort fun x y=>decide (x<=y))=mrgU ltB M:=by
 have hperm:=List.mergeSort_perm V (fun x y=>decide (x<=y))
 have hsort:=List.pairwise_mergeSort (le:=fun (x y:Str)=>decide (x<=y)) (fun a b c h1 h2=>decide_eq_true (List.le_trans (of_decide_eq_true h1) (of_decide_eq_true h2))) (fun a b=>by
  simp only[Bool.or_eq_true,decide_eq_true_eq];exact List.le_total a b) V
 have hnd:(V.mergeSort fun x y=>decide (x<=y)).Nodup:=hperm.symm.nodup hn;refine ZHE ZAX ?_ fun e=>by rw[hperm.mem_iff,hm]
 refine (hsort.and hnd).imp fun {a b} h=>?_;have h1:a<=b:=of_decide_eq_true h.1
 rcases ZAX.tri a b with g|g|g
 ·exact g
 ·exact absurd g h.2
 ·exact absurd g (List.not_lt.2 h1)
def stkL (s:List WkR)(t:Int)(p:Str):List Str:=mrgU ltB ((itmW s).filter fun k=>decide (ZCv s t k=p))
def ZIB (l:List WkR)(p:Str)(t:Int):List Str×Int :=
 if (chkS l).2≠0 then ([],(chkS l).2) else if ZA3 p=false then ([],6) else if t<0\/80000<t then ([],7) else (stkL (ZAJ (mrgU ltW l)) t p,0)
theorem ZQZ (s:List WkR):(itmW s).length<=s.length:=by
 unfold itmW ofK;rw[List.length_map];exact List.length_filter_le _ _
theorem ZSV (s:List WkR)(t:Int)(p:Str):(stkL s t p).length<=s.length :=
 Nat.le_trans (ZDV ZAX _) (Nat.le_trans (List.length_filter_le _ _) (ZQZ s))
set_option maxHeartbeats 4000000 in
theorem ZRD {a:Option Addr}{cap:Nat}{l:List WkR}{h:Heap}{p:Str}{t:Int}(hR:SrcK rowW 6 h a l)(hn:a=none->l=[]/\cap=0)(hf:∀x∈l,x.Fit)(hlen:Len l)(hL:WkLib h)(hp:p.length<=281474976710656) :
  Sv Tryz.prog 41 [.slice a l.length cap,str p,i64 t] h (RetP fun v h'=>(∃v1,v=.tuple ⟨[v1,i64 (ZIB l p t).2]⟩/\ZAD h h' v1 9 1 ((ZIB l p t).1.map str) (ZIB l p t).1.length)/\Ext h h'):=by
 have hop:=ZHi hR hn hf hlen hL;unfold ZME at hop;have hcl:=ZCB (l:=l);have hcg:=ZDW (l:=l);unfold ZIB;generalize chkS l=ck at *;refine ZAG Tryz.func41 rfl (by rw[Tryz.ntmps41];rfl) ?_;show Wc Tryz.prog ⟨41,49,none⟩ _ _ _ _ _;refine zy ?_;refine ZAI rfl rfl rfl rfl rfl Bod.h rfl rfl hop ?_;rintro _ h1 ⟨⟨hc,rfl⟩|⟨hc,aS,af,rfl,hS,-⟩,hE1⟩
 ·refine zy ?_
  refine ZAC rfl rfl rfl rfl (A_tt hc (ZAy rfl rfl)) ?_;refine zy ?_;rw[if_pos hc];exact ZAF (ZAH rfl ⟨⟨_,rfl,.nil _ _ _ _⟩,hE1⟩)
 rw[if_neg (fun q=>q hc)];have hl2:=hcl hc;replace hcg:=hcg hc;have hup:=ZSC l;have hsl:(ZAJ (mrgU ltW l)).length<=200:=Nat.le_trans (ZCL l) hl2;have hsd:∀x∈ZAJ (mrgU ltW l),0<=x.day/\x.day<=80000:=fun x hx=>ZOe (hcg x (ZCQ hx));clear hcl hcg hop;generalize ZAJ (mrgU ltW l)=S at *;generalize ZAz (mrgU ltW l)=F at *;refine zy ?_;refine ZAC rfl rfl rfl rfl (A_ff (fun q=>q rfl) (ZAy rfl rfl)) ?_;refine zy ?_;refine ZAT rfl rfl rfl rfl rfl Bod.h rfl rfl (ZB5 p _ (by omega)) fun h2 hE12=>?_;have hE2:=hE1.trans hE12;replace hS:=hS.ext hE12
 cases hnp:ZA3 p with
 | false =>
  rw[if_pos rfl];refine zy ?_;exact ZAF (ZAH rfl ⟨⟨_,rfl,.nil _ _ _ _⟩,hE2⟩)
 | true =>
 rw[if_neg (by decide)];refine zy ?_;refine ZAa rfl rfl rfl rfl rfl Bod.h rfl rfl (ZF6 _ _ _ _) ?_
 by_cases ht:t<0\/80000<t
 ·rw[decide_eq_true ht,if_pos ht]
  refine zy ?_;exact ZAF (ZAH rfl ⟨⟨_,rfl,.nil _ _ _ _⟩,hE2⟩)
 rw[decide_eq_false ht,if_neg ht];refine zy ?_;refine ZBR fun hw=>?_;refine ZAI rfl rfl rfl rfl rfl Bod.h rfl rfl (ZNK (t:=t) hS hup hsl hsd) ?_;rintro _ h3 ⟨hE3,bm,rfl,G,hO,hon,hlk⟩;refine zy ?_;refine ZCG strK hE3 rfl rfl Und.h rfl hO fun h4 hW4 hO4 hE34=>?_;have hE4:=hE3.trans hE34;generalize h3.nx=rr at hO4 ⊢;have hO4':=(hO4.nilSl 9 1).up2;clear hO4 hO hE3 hE34;refine zy ?_;refine ZAS (fun (st:Value×List Str) m ds h'=>ds=[]/\Ext h2 h'/\Own h2 h' (itI strK bm rr (kvG G) st.2::slI h2 st.1 9 1 ((st.2.reverse.filter fun k=>decide (ZCv S t k=p)).map str) (st.2.reverse.filter fun k=>decide (ZCv S t k=p)).length::slG rowW 44 6 h2 G)/\st.2.Nodup/\(∀k∈st.2,k∈itmW S)/\AllK m [(1,str p),(6,st.1),(32,.pointer (some ⟨rr,0,none⟩))]) (fun st=>(itmW S).length-st.2.length) (.slice none 0 0,[]) ?_ ?_
 ·exact⟨rfl,hE4,hO4',.nil,(fun _ h=>nomatch h),rfl,rfl,rfl,trivial⟩
 clear hO4' hE4 hW4;rintro⟨vs,V⟩ m ds h5 ⟨rfl,hE5,hO5,hVn,hV2,hall⟩;refine Wc.le ?_ (Le.kn hall);clear hall;simp only at hO5 hVn hV2 ⊢;have hil:=ZQZ S;have hVl:=ZBK hVn hV2;have hfl:(V.reverse.filter fun k=>decide (ZCv S t k=p)).length<=200:=Nat.le_trans (List.length_filter_le _ _) (by rw[List.length_reverse];omega);refine zy ?_;refine ZCk strK hw hE5 rfl rfl rfl hon hO5 (fun hdone=>?_) fun k v h6 hlkv hnk hC hO6 hE6=>?_
 ·have hVm:∀k,k∈V ↔ k∈itmW S:=fun k=>⟨hV2 k,fun hk=>by
   have h1:=hlk k;rw[if_pos hk] at h1
   cases hl:ZBI k G with
   | none=>rw[hl] at h1;cases h1
   | some q=>exact hdone k q.1 (by rw[ZCy,hl];rfl)⟩
  have hset:((V.reverse.filter fun k=>decide (ZCv S t k=p)).mergeSort fun x y=>decide (x<=y))=stkL S t p:=ZRq (((List.reverse_perm V).symm.nodup hVn).filter _) fun k=>by
   simp only[List.mem_filter,List.mem_reverse,hVm]
  have hsl2:(V.reverse.filter fun k=>decide (ZCv S t k=p)).length=(stkL S t p).length:=by
   rw[<-hset,(List.mergeSort_perm _ _).length_eq]
  have hOt:=hO5.tail;refine zy ?_;refine ZBR fun hW5=>?_;refine ZAI rfl rfl rfl rfl rfl Bod.h rfl rfl (ZHr (show ZAD h2 h5 vs 9 1 _ _ from hOt.p1) (by omega)) ?_;rintro _ h7 ⟨rfl,hF7,hX7⟩;rw[hset,hsl2] at hF7;have hE7:=hOt.grows hX7 hE5 hw;refine zy ?_;exact ZAF (ZAH rfl ⟨⟨vs,rfl,hF7.base hE2.2.1⟩,hE2.trans hE7⟩)
 have hkG:ZBI k G=some (v,ZC5 S t k)/\k∈itmW S:=by
  rw[ZCy] at hlkv;have h1:=hlk k
  cases hl:ZBI k G with
  | none=>rw[hl] at hlkv;cases hlkv
  | some q =>
   rw[hl] at hlkv h1
   by_cases hk:k∈itmW S
   ·rw[if_pos hk] at h1
    obtain⟨q1,q2⟩:=q;simp only[Option.map_some,Option.some.injEq] at hlkv h1;rw[hlkv,h1];exact⟨rfl,hk⟩
   ·rw[if_neg hk] at h1;cases h1
 obtain⟨hlG,hki⟩:=hkG;have hlt:V.length+1<=(itmW S).length:=by
  have:=ZBK (List.nodup_cons.2 ⟨hnk,hVn⟩) (m:=itmW S) fun k' hk'=>by
   rcases List.mem_cons.1 hk' with rfl|hk'
   ·exact hki
   ·exact hV2 k' hk'
  simpa using this
 have hV3:∀k'∈k::V,k'∈itmW S:=fun k' hk'=>by
  rcases List.mem_cons.1 hk' with rfl|hk'
  ·exact hki
  ·exact hV2 k' hk'
 obtain⟨av,ev,hSv,hnv⟩:=ZAD.rowsAt (enc:=rowW) (k:=6) (fun _=>rfl) (show ZAD h2 h6 v 44 6 _ _ from hO6.tail.tail.has _ (ZJl rowW 44 6 (h0:=h2) hlG)) rfl;subst ev;have hspl:Len (ZC5 S t k):=by
  have h1:=ZG5 hup t k;have h2:=ZI7 S t k
  show (ZC5 S t k).length<_
  omega
 have hfn:∀q:Bool,decide (ZCv S t k=p)=q->((k::V).reverse.filter fun k=>decide (ZCv S t k=p))=(V.reverse.filter fun k=>decide (ZCv S t k=p))++if q=true then [k] else []:=fun q hq=>by
  rw[List.reverse_cons,List.filter_append]
  congr 1
  rw[List.filter_cons,hq]
  rfl
 refine zy ?_;refine ZDw strK rfl rfl rfl hC ?_;refine zy ?_;refine ZAT rfl rfl rfl rfl rfl Bod.h rfl rfl (ZPQ hSv.1 hspl) fun h7 hE7=>?_;have hO7:=hO6.ext hE7;have hE67:=hE6.trans hE7;refine zy ?_
 by_cases hq:ZCv S t k=p
 ·have hq2:ZOH (ZC5 S t k)=p:=hq
  refine ZAC rfl rfl rfl rfl (A_tt hq2 (ZAV rfl rfl)) ?_;have hfn1:=hfn true (decide_eq_true hq);rw[if_pos rfl] at hfn1;refine zy ?_;refine ZBn rfl rfl Und.h Tsz.h Zr.h rfl rfl rfl rfl rfl fun h8 hE8 hW8 hg8 hn8=>?_;refine zy ?_;refine ZA5 (k:=1) (l:=[str k]) hw (hE67.trans hE8) rfl rfl rfl rfl rfl Und.h inferInstance rfl rfl ((hO7.ext hE8).up2) (ZBB Und.h (by intro k;simp) (ZAg hg8 rfl)) rfl rfl (by omega) (by omega) fun v9 h9 hW9 hO9 hE9=>?_;refine zy ?_;refine⟨(v9,k::V),(by show (itmW S).length-(V.length+1)<(itmW S).length-V.length;omega),rfl,hE9,?_,List.nodup_cons.2 ⟨hnk,hVn⟩,hV3,rfl,rfl,rfl,trivial⟩
  simp only;rw[hfn1,List.map_append,List.length_append];exact hO9.up2
 ·have hq2:¬ZOH (ZC5 S t k)=p:=hq
  refine ZAC rfl rfl rfl rfl (A_ff hq2 (ZAV rfl rfl)) ?_;have hfn1:=hfn false (decide_eq_false hq);rw[if_neg (by decide),List.append_nil] at hfn1;refine zy ?_;refine⟨(vs,k::V),(by show (itmW S).length-(V.length+1)<(itmW S).length-V.length;omega),rfl,hE67,?_,List.nodup_cons.2 ⟨hnk,hVn⟩,hV3,rfl,rfl,rfl,trivial⟩;simp only;rw[hfn1];exact hO7
theorem ZOh {a:Option Addr}{cap:Nat}{l:List Str}{k:Str}{h:Heap}(hR:ZAo str h a l)(hlen:Len l):Sv Tryz.prog 29 [.slice a l.length cap,str k] h (RetP fun v h'=>v=.bool (decide (k∈l))/\h'=h):=by
 refine ZAG Tryz.func29 rfl (by rw[Tryz.ntmps29];rfl) ?_;show Wc Tryz.prog ⟨29,18,none⟩ _ _ _ _ _;refine zy ?_;refine ZAS (fun (j:Nat) m ds h'=>ds=[]/\h=h'/\j<=l.length/\k ∉ l.take j/\AllK m [(0,.slice a l.length cap),(1,str k),(5,i64 (j:Nat))]) (fun j=>l.length-j) 0 ?_ ?_
 ·exact⟨rfl,rfl,Nat.zero_le _,by simp,rfl,rfl,rfl,trivial⟩
 rintro j m ds h' ⟨rfl,rfl,hj,hno,hall⟩;refine Wc.le ?_ (Le.kn hall);clear hall;refine zy ?_;refine ZAW rfl rfl rfl rfl (ZAd rfl rfl) (fun hjl=>?_) (fun hjl=>?_);rotate_left
 ·refine zy ?_
  have:j=l.length:=by omega
  subst this;rw[List.take_length] at hno;exact ZAF (ZAH rfl ⟨by rw[decide_eq_false hno];rfl,rfl⟩)
 have hj':j<l.length:=by omega
 obtain⟨b,o,oa,rfl,hc⟩:=hR j hj';have htk:l.take (j+1)=l.take j++[l[j]]:=by rw[List.take_add_one,List.getElem?_eq_getElem hj'];rfl
 have hmem:l[j]∈l:=List.getElem_mem hj';generalize l[j]=x at *;refine zy ?_;refine ZAC rfl rfl rfl rfl (A_ix Und.h Tsz.h rfl rfl) ?_;refine zy ?_
 by_cases he:x=k
 ·subst he
  refine ZAC rfl rfl rfl rfl (A_tt rfl (ZAV rfl rfl)) ?_;refine zy ?_;exact ZAF (ZAH rfl ⟨by rw[decide_eq_true hmem];rfl,rfl⟩)
 ·refine ZAC rfl rfl rfl rfl (A_ff he (ZAV rfl rfl)) ?_
  refine zy ?_;refine⟨j+1,(by show l.length-(j+1)<l.length-j;omega),rfl,rfl,hj',?_,rfl,rfl,rfl,trivial⟩;rw[htk,List.mem_append,List.mem_singleton];rintro (q|q)
  ·exact hno q
  ·exact he q.symm
theorem ZP1 {S:List WkR}{x:WkR}(hx:x∈S)(h5:x.kind=5):x.a∈itmW S:=List.mem_map.2 ⟨x,ZBt.2 ⟨hx,by simp[h5]⟩,rfl⟩
set_option maxHeartbeats 8000000 in
theorem ZJd {ad:Option Addr}{cap:Nat}{l:List WkR}{t:Int}{h:Heap}(hR:SrcK rowW 6 h ad l)(hn:ad=none->l=[]/\cap=0)(hf:∀x∈l,x.Fit)(hlen:Len l)(hL:WkLib h) :
  Sv Tryz.prog 12 [.slice ad l.length cap,i64 t] h (RetP fun v h'=>v=.bool true/\Ext h h'):=by
 refine ZAG Tryz.func12 rfl (by rw[Tryz.ntmps12];rfl) ?_;show Wc Tryz.prog ⟨12,145,none⟩ _ _ _ _ _;refine zy ?_;refine ZAI rfl rfl rfl rfl rfl Bod.h rfl rfl (ZBj hR hn hf hlen hL) ?_;rintro _ h1 ⟨⟨aS,nS,cS,aFo,nFo,cFo,rfl,hcB,hcN⟩,hE1⟩;refine zy ?_
 by_cases hc:(chkS l).2=0
 rotate_left
 ·refine ZAC rfl rfl rfl rfl (A_tt hc (ZAy rfl rfl)) ?_
  refine zy ?_;refine ZAC rfl rfl rfl rfl (A_tt (by rw[hcN hc];rfl) (ZAt rfl rfl)) ?_;refine zy ?_;refine ZAT rfl rfl rfl rfl rfl Bod.h rfl rfl (ZA6 (hL.ext hE1)) fun h6 hE6=>?_;refine zy ?_;exact ZAF (ZAH rfl ⟨rfl,hE1.trans hE6⟩)
 refine ZAC rfl rfl rfl rfl (A_ff (fun q=>q hc) (ZAy rfl rfl)) ?_;have hll:=ZCB hc;have hcg:=ZDW hc;have hSl:(ZAJ (mrgU ltW l)).length<=200:=Nat.le_trans (ZCL l) hll;have hsg:∀x∈ZAJ (mrgU ltW l),ZA4 x=0:=fun x hx=>hcg x (ZCQ hx);have hsf:∀x∈ZAJ (mrgU ltW l),x.Fit:=fun x hx=>hf x (ZCQ hx)
 have hWh:∀k∈itmW (ZAJ (mrgU ltW l)),ZHT l k t=if t<0\/80000<t then ([],7) else (ZCv (ZAJ (mrgU ltW l)) t k,0):=fun k hk=>by
  unfold ZHT;rw[if_neg (fun q=>q hc),if_neg (fun q=>q hk)]
 have hSt:∀p:Str,ZA3 p=true->ZIB l p t=if t<0\/80000<t then ([],7) else (stkL (ZAJ (mrgU ltW l)) t p,0):=fun p hp=>by
  unfold ZIB;rw[if_neg (fun q=>q hc),if_neg (by rw[hp];decide)]
 have hwsv:=fun (k:Str) (h:Heap) (hR:SrcK rowW 6 h ad l) (hL:WkLib h)=>ZJh (k:=k) (t:=t) hR hn hf hlen hL;have hssv:=fun (p:Str) (h:Heap) (hR:SrcK rowW 6 h ad l) (hL:WkLib h) (hp:p.length<=281474976710656)=>ZRD (t:=t) hR hn hf hlen hL hp;obtain⟨rfl,-,hSS,-⟩:=hcB hc;clear hcB hcN hcg;generalize ZAJ (mrgU ltW l)=S at *;refine zy ?_;refine ZAS (fun (i:Nat) m ds h'=>ds=[]/\Ext h1 h'/\i<=S.length/\AllK m [(0,.slice ad l.length cap),(1,i64 t),(5,.slice aS S.length cS),(8,i64 (i:Nat))]) (fun i=>S.length-i) 0 ?_ ?_
 ·exact⟨rfl,Ext.refl _,Nat.zero_le _,rfl,rfl,rfl,rfl,trivial⟩
 rintro i m ds h2 ⟨rfl,hE2,hi,hall⟩;refine Wc.le ?_ (Le.kn hall);clear hall;refine ZDu (Wc.mono (Q:=fun z m' ds' h'=>ds'=[]/\h2=h'/\AllK m' [(0,.slice ad l.length cap),(1,i64 t),(5,.slice aS S.length cS),(8,i64 (i:Nat))]/\((z=.normal/\i<S.length)\/z=.exit 0)) ?_ ?_)
 ·by_cases q1:i<S.length
  ·refine zy ?_
   refine ZAC rfl rfl rfl rfl (A_tt (by omega) (ZAd rfl rfl)) ?_
   by_cases q2:i<60
   ·refine zy ?_
    refine ZAC rfl rfl rfl rfl (A_tt (by omega) (ZAd rfl rfl)) ?_;refine zy ?_;exact⟨rfl,rfl,⟨rfl,rfl,rfl,rfl,trivial⟩,.inl ⟨rfl,q1⟩⟩
   ·refine zy ?_
    refine ZAC rfl rfl rfl rfl (A_ff (by omega) (ZAd rfl rfl)) ?_;refine zy ?_;exact⟨rfl,rfl,⟨rfl,rfl,rfl,rfl,trivial⟩,.inr rfl⟩
  ·refine zy ?_
   refine ZAC rfl rfl rfl rfl (A_ff (by omega) (ZAd rfl rfl)) ?_;refine zy ?_;exact⟨rfl,rfl,⟨rfl,rfl,rfl,rfl,trivial⟩,.inr rfl⟩
 rintro z m _ _ ⟨rfl,rfl,hall,(⟨rfl,hi'⟩|rfl)⟩;rotate_left
 ·show Wc _ _ _ _ _ _ _
  refine Wc.le ?_ (Le.kn hall);clear hall;refine zy ?_;refine ZAT rfl rfl rfl rfl rfl Bod.h rfl rfl (ZA6 (hL.ext (hE1.trans hE2))) fun h6 hE6=>?_;refine zy ?_;exact ZAF (ZAH rfl ⟨rfl,(hE1.trans hE2).trans hE6⟩)
 show Wc _ _ _ _ _ _ _
 refine Wc.le ?_ (Le.kn hall);clear hall;have hxm:=List.getElem_mem hi';have hxg:=hsg _ hxm;have hxf:=hsf _ hxm;have hxi:S[i].kind=5->S[i].a∈itmW S:=ZP1 hxm;obtain⟨bS,oS,oaS,rfl,row,hrow0,hx⟩:=hSS.1 i hi';have hrow:=hE2.row hrow0;have ex:row=rowW S[i]:=hx;clear hx hrow0;generalize S[i]=x at *;subst ex;have hE12:=hE1.trans hE2;have hc3:ZAZ h2 bS (oS+i*6+3)=some (i64 x.kind):=ZAM (k:=3) hrow rfl;have hc4:ZAZ h2 bS (oS+i*6+4)=some (str x.a):=ZAM (k:=4) hrow rfl;refine zy ?_;refine ZAC rfl rfl rfl rfl (A_ix Und.h Tsz.h rfl rfl) ?_;refine zy ?_
 by_cases c5:x.kind=5
 rotate_left
 ·refine ZAC rfl rfl rfl rfl (A_tt c5 (ZAy rfl rfl)) ?_
  refine zy ?_;exact⟨i+1,(by show S.length-(i+1)<S.length-i;omega),rfl,hE2,hi',rfl,rfl,rfl,rfl,trivial⟩
 refine ZAC rfl rfl rfl rfl (A_ff (fun q=>q c5) (ZAy rfl rfl)) ?_;replace hxi:=hxi c5;have hxb:ZA3 x.b=true:=(ZCE hxg).2.2.1 (by omega) (by omega);refine zy ?_;refine ZAC rfl rfl rfl rfl (A_ix Und.h Tsz.h rfl rfl) ?_;refine zy ?_;refine ZAT rfl rfl rfl rfl rfl Bod.h rfl rfl (hwsv x.a h2 (hR.ext hE12) (hL.ext hE12)) fun h3 hE23=>?_;rw[hWh _ hxi];have hE3:=hE2.trans hE23;have hE13:=hE12.trans hE23;have hrow3:=hE23.row hrow;have hd5:ZAZ h3 bS (oS+i*6+5)=some (str x.b):=ZAM (k:=5) hrow3 rfl;refine zy ?_;refine ZAC rfl rfl rfl rfl (A_ix Und.h Tsz.h rfl rfl) ?_;refine zy ?_;refine ZAI rfl rfl rfl rfl rfl Bod.h rfl rfl (hssv x.b h3 (hR.ext hE13) (hL.ext hE13) hxf.3) ?_
 rintro _ h4 ⟨⟨v1,rfl,hF4⟩,hE34⟩;rw[hSt _ hxb] at hF4 ⊢;have hE4:=hE3.trans hE34;have hE14:=hE13.trans hE34;have hrow4:=hE34.row hrow3;have he4:ZAZ h4 bS (oS+i*6+4)=some (str x.a):=ZAM (k:=4) hrow4 rfl;have he5:ZAZ h4 bS (oS+i*6+5)=some (str x.b):=ZAM (k:=5) hrow4 rfl
 by_cases hd:t<0\/80000<t
 ·rw[if_pos hd] at hF4
  rw[if_pos hd,if_pos hd]
  dsimp only at hF4
  obtain⟨a4,rfl,-,-⟩:=ZAD.list (enc:=str) hF4;refine zy ?_;refine ZAQ hmix [0,0,3,7,15,31,63,127,127,127,895,1919,3967,8191,127,127,127,98431,229503,491647,1032319,2097151,4194303,8388607,16777215,33554431,67108863,134217727,268435455,536870911,1073741823,2147483647,4294967295] [0,1,2,3,4,5,6,7,8,9,10,11,12,14,15,16,17,18,19,20] (some 13) [([21,22,23,24,25,26,27,28,29,30,31,32],none)] (by kernel_rfl) (by kernel_rfl) ?_;refine z_m ?_;refine z_m ?_;refine ZAA rfl rfl rfl rfl rfl (fun _=>A_ff (fun q=>q rfl) (ZAy rfl rfl)) ?_;refine z_m ?_;refine g_m ?_
  first|refine ZAO rfl rfl rfl rfl ?_|refine ZAA rfl rfl rfl rfl rfl (fun _=>A_ff (by decide) (ZAt rfl rfl)) ?_
  refine g_m ?_;refine g_m ?_;refine g_m ?_;refine g_m ?_;refine z_o ?_;refine g_f ?_;refine g_l ?_;refine g_m ?_;refine g_m ?_;refine g_m ?_;refine z_o ?_;refine g_f ?_;refine g_l ?_;refine z_o ?_;refine ZAN [0,1,2,3,4,5,6,7,8,9,10,11,12] (by kernel_rfl) rfl (ZAB rfl) rfl nb (kF (kF (kF (kF (kF (kF (kF (dF (dF (dF (dF (dF (dF (dF (dF (dF (dF (dF (dF (dF nF)))))))))))))))))))) (ZCI rfl ?_);refine z_o ?_;refine g_p ?_;refine z_p ?_;refine z_m ?_;refine g_m ?_
  first|refine ZAO rfl rfl rfl rfl ?_|refine ZAA rfl rfl rfl rfl rfl (fun _=>A_tt (by decide) (ZAy rfl rfl)) ?_
  refine g_m ?_;refine g_m ?_;refine g_c ?_
  first|refine ZAO rfl rfl rfl rfl ?_|refine ZAA rfl rfl rfl rfl rfl (fun _=>A_ff (fun q=>q rfl) (ZAy rfl rfl)) ?_
  refine g_p ?_;refine z_p ?_;refine ZAY (by refine ZEe (i:=20) rfl rfl rfl rfl rfl ?_;refine o_l 19 ?_;refine o_f 18 ?_;refine ZEe (i:=17) rfl rfl rfl rfl rfl ?_;refine o_m 16 ?_;refine o_m 15 ?_;refine o_m 14 ?_;exact ZAB rfl) nb' ?_;refine zy ?_;refine ZAS (fun (k:Nat) m ds h'=>ds=[]/\h4=h'/\k=0/\AllK m [(0,.slice ad l.length cap),(1,i64 t),(5,.slice (some ⟨bS,oS,oaS⟩) S.length cS),(8,i64 (i:Nat)),(11,.slice a4 ([]:List Str).length ([]:List Str).length),(13,i64 (k:Nat))]) (fun k=>k) 0 ?_ ?_
  ·exact⟨rfl,rfl,rfl,rfl,rfl,rfl,rfl,rfl,rfl,trivial⟩
  rintro k m ds h5 ⟨rfl,rfl,rfl,hall⟩;refine Wc.le ?_ (Le.kn hall);clear hall;refine zy ?_;refine ZAC rfl rfl rfl rfl (A_ff (by decide) (ZAd rfl rfl)) ?_;refine zy ?_;exact⟨i+1,(by show S.length-(i+1)<S.length-i;omega),rfl,hE4,hi',rfl,rfl,rfl,rfl,trivial⟩
 rw[if_neg hd] at hF4;rw[if_neg hd,if_neg hd]
 dsimp only at hF4
 have hkl:=ZSV S t x.b
 have hkm:∀k,k∈stkL S t x.b ↔ k∈itmW S/\ZCv S t k=x.b:=fun k=>by
  unfold stkL;rw[ZAl ZAX,List.mem_filter,decide_eq_true_eq]
 have hku:(stkL S t x.b).Pairwise ltB:=ZCR ZAX _;generalize stkL S t x.b=K at *;obtain⟨a4,rfl,-,hK4⟩:=ZAD.list (enc:=str) hF4;have hhas:=ZOh (cap:=K.length) (k:=x.a) hK4 (show _<_ by omega);have hdec:decide (x.a∈K)=decide (ZCv S t x.a=x.b):=by
  rw[Bool.eq_iff_iff,decide_eq_true_iff,decide_eq_true_iff,hkm];exact⟨fun q=>q.2,fun q=>⟨hxi,q⟩⟩
 rw[hdec] at hhas;refine zy ?_;refine ZAQ hmix [0,0,3,7,15,31,63,127,127,127,895,1919,3967,8191,127,127,127,98431,229503,491647,1032319,2097151,4194303,8388607,16777215,33554431,67108863,134217727,268435455,536870911,1073741823,2147483647,4294967295] [0,1,2,3,4,5,6,7,8,9,10,11,12,14,15,16,17,18,19,20] (some 13) [([21,22,23,24,25,26,27,28,29,30,31,32],none)] (by kernel_rfl) (by kernel_rfl) ?_;refine z_m ?_;refine z_m ?_;refine ZAA rfl rfl rfl rfl rfl (fun _=>A_ff (fun q=>q rfl) (ZAy rfl rfl)) ?_;refine z_m ?_;refine g_m ?_
 first|refine ZAO rfl rfl rfl rfl ?_|refine ZAA rfl rfl rfl rfl rfl (fun _=>A_tt rfl (ZAt rfl rfl)) ?_
 refine g_m ?_;refine g_m ?_;refine g_m ?_;refine g_m ?_
 first|refine ZAO rfl rfl rfl rfl ?_|refine ZAA rfl rfl rfl rfl rfl (fun _=>A_ix (k:=i) Und.h Tsz.h rfl rfl hi') ?_
 refine g_f ?_;refine g_l ?_;refine g_m ?_;refine g_m ?_;refine g_m ?_
 first|refine ZAO rfl rfl rfl rfl ?_|refine ZAA rfl rfl rfl rfl rfl (fun _=>A_ix (k:=i) Und.h Tsz.h rfl rfl hi') ?_
 refine g_f ?_;refine g_l ?_
 first|refine ZAO rfl rfl rfl rfl ?_|refine ZAA rfl rfl rfl rfl rfl (fun _=>ZAV rfl rfl) ?_
 refine ZAN [0,1,2,3,4,5,6,7,8,9,10,11,12] (by kernel_rfl) rfl (ZAB rfl) rfl nb (kF (kF (kF (kF (kF (kF (kF (dF (dF (dF (dF (dF (dF (dF (dF (dF (dF (dF (dF (dF nF)))))))))))))))))))) (ZAf rfl rfl rfl rfl rfl Bod.h hhas ?_)
 first|refine ZAO rfl rfl rfl rfl ?_|refine ZAA rfl rfl rfl rfl rfl (fun _=>A_ff (fun q=>q rfl) (ZTI Und.h rfl rfl)) ?_
 refine g_p ?_;refine z_p ?_;refine z_m ?_;refine g_m ?_
 first|refine ZAO rfl rfl rfl rfl ?_|refine ZAA rfl rfl rfl rfl rfl (fun _=>A_ff (fun q=>q rfl) (ZAy rfl rfl)) ?_
 refine g_m ?_;refine g_m ?_;refine g_c ?_;refine z_o ?_;refine g_p ?_;refine z_p ?_;refine ZAY (by (first|refine ZEe (i:=20) rfl rfl rfl rfl rfl ?_|refine ZBF (i:=20) rfl rfl rfl rfl rfl (fun _=>ZAV rfl rfl) rfl ?_);refine o_l 19 ?_;refine o_f 18 ?_;(first|refine ZEe (i:=17) rfl rfl rfl rfl rfl ?_|refine ZBF (i:=17) rfl rfl rfl rfl rfl (fun _=>A_ix (k:=i) Und.h Tsz.h rfl rfl hi') rfl ?_);refine o_m 16 ?_;refine o_m 15 ?_;refine o_m 14 ?_;exact ZAB rfl) nb' ?_;refine zy ?_;refine ZAS (fun (k:Nat) m ds h'=>ds=[]/\Ext h4 h'/\k<=K.length/\AllK m [(0,.slice ad l.length cap),(1,i64 t),(5,.slice (some ⟨bS,oS,oaS⟩) S.length cS),(8,i64 (i:Nat)),(11,.slice a4 K.length K.length),(13,i64 (k:Nat))]) (fun k=>K.length-k) 0 ?_ ?_
 ·exact⟨rfl,Ext.refl _,Nat.zero_le _,rfl,rfl,rfl,rfl,rfl,rfl,trivial⟩
 rintro k m ds h5 ⟨rfl,hE5,hk,hall⟩;refine Wc.le ?_ (Le.kn hall);clear hall;refine zy ?_;refine ZAW rfl rfl rfl rfl (ZAd rfl rfl) (fun hkk=>?_) (fun hkk=>?_);rotate_left
 ·refine zy ?_
  exact⟨i+1,(by show S.length-(i+1)<S.length-i;omega),rfl,hE4.trans hE5,hi',rfl,rfl,rfl,rfl,trivial⟩
 have hk':k<K.length:=by omega
 obtain⟨bK,oK,oaK,rfl,hcK0⟩:=hK4 k hk';have hcK:=hE5.cell hcK0;have hkey:=(hkm _).1 (List.getElem_mem hk');obtain⟨y,hy⟩:∃y,y=K[k]:=⟨_,rfl⟩;rw[<-hy] at hcK hkey hcK0;have hE15:=hE14.trans hE5;have hwy:=hwsv y h5 (hR.ext hE15) (hL.ext hE15);rw[hWh _ hkey.1,if_neg hd,hkey.2] at hwy;refine zy ?_;refine ZAC rfl rfl rfl rfl (A_ix Und.h Tsz.h rfl rfl) ?_;refine zy ?_;refine ZAT rfl rfl rfl rfl rfl Bod.h rfl rfl hwy fun h6 hE56=>?_;have hE6:=hE5.trans hE56;have hrow6:=hE6.row hrow4;have hf5:ZAZ h6 bS (oS+i*6+5)=some (str x.b):=ZAM (k:=5) hrow6 rfl;have hcK6:=hE56.cell hcK
 by_cases hk0:k=0
 ·refine zy ?_
  refine ZAQ hmix [0,1,3,7,7,7,55,119,247,511,1023,2047,4095,8191,16383,32767,32767,131071,262143,32767,32767,1081343,3702783,7897087,16777215,33554431,67108863] [0,1,2,3,4,5,6,7,8,9,10,11,12,13,14,15,16,17,18,19,20,21,22,23,24,25,26] none [] (by kernel_rfl) (by kernel_rfl) ?_;refine z_m ?_;refine ZAA rfl rfl rfl rfl rfl (fun _=>A_ff (fun q=>q rfl) (ZAy rfl rfl)) ?_;refine z_m ?_;refine g_m ?_;refine g_m ?_;refine g_m ?_
  first|refine ZAO rfl rfl rfl rfl ?_|refine ZAA rfl rfl rfl rfl rfl (fun _=>A_ix (k:=i) Und.h Tsz.h rfl rfl hi') ?_
  refine g_f ?_;refine g_l ?_
  first|refine ZAO rfl rfl rfl rfl ?_|refine ZAA rfl rfl rfl rfl rfl (fun _=>A_ff (fun q=>q rfl) (ZAj rfl rfl)) ?_
  refine z_p ?_;refine z_m ?_;refine g_m ?_
  first|refine ZAO rfl rfl rfl rfl ?_|refine ZAA rfl rfl rfl rfl rfl (fun _=>A_ff (by omega) (ZCS rfl rfl)) ?_
  refine g_m ?_;refine g_m ?_;refine g_m ?_;refine z_o ?_;refine g_l ?_;refine g_m ?_;refine g_m ?_;refine g_u ?_;refine z_o ?_;refine g_l ?_;refine z_o ?_;refine g_p ?_;refine z_p ?_;refine ZAY (ZAB rfl) nb' ?_;refine zy ?_;exact⟨k+1,(by show K.length-(k+1)<K.length-k;omega),rfl,hE6,hk',rfl,rfl,rfl,rfl,rfl,rfl,trivial⟩
 have hk1:k-1<K.length:=by omega
 obtain⟨bK',oK',oaK',eK',hcP0⟩:=hK4 (k-1) hk1;cases eK';have hcP:=hE6.cell hcP0;have hlt:ltB K[k-1] y:=by
  rw[hy];exact List.pairwise_iff_getElem.1 hku (k-1) k hk1 hk' (by omega)
 generalize K[k-1]=w at *;refine zy ?_;refine ZAQ hmix [0,1,3,7,7,7,55,119,247,511,1023,2047,4095,8191,16383,32767,32767,131071,262143,32767,32767,1081343,3702783,7897087,16777215,33554431,67108863] [0,1,2,3,4,5,6,7,8,9,10,11,12,13,14,15,16,17,18,19,20,21,22,23,24,25,26] none [] (by kernel_rfl) (by kernel_rfl) ?_;refine z_m ?_;refine ZAA rfl rfl rfl rfl rfl (fun _=>A_ff (fun q=>q rfl) (ZAy rfl rfl)) ?_;refine z_m ?_;refine g_m ?_;refine g_m ?_;refine g_m ?_
 first|refine ZAO rfl rfl rfl rfl ?_|refine ZAA rfl rfl rfl rfl rfl (fun _=>A_ix (k:=i) Und.h Tsz.h rfl rfl hi') ?_
 refine g_f ?_;refine g_l ?_
 first|refine ZAO rfl rfl rfl rfl ?_|refine ZAA rfl rfl rfl rfl rfl (fun _=>A_ff (fun q=>q rfl) (ZAj rfl rfl)) ?_
 refine z_p ?_;refine z_m ?_;refine g_m ?_
 first|refine ZAO rfl rfl rfl rfl ?_|refine ZAA rfl rfl rfl rfl rfl (fun _=>A_tt (by omega) (ZCS rfl rfl)) ?_
 refine g_m ?_;refine g_m ?_;refine g_m ?_
 first|refine ZAO rfl rfl rfl rfl ?_|refine ZAA rfl rfl rfl rfl rfl (fun _=>A_ix (k:=k) Und.h Tsz.h rfl rfl hk') ?_
 refine g_l ?_;refine g_m ?_;refine g_m ?_;refine g_u ?_
 first|refine ZAO rfl rfl rfl rfl ?_|refine ZAA rfl rfl rfl rfl rfl (fun _=>ZAK (k:=k-1) Und.h Tsz.h rfl rfl (by omega) (by omega)) ?_
 refine g_l ?_
 first|refine ZAO rfl rfl rfl rfl ?_|refine ZAA rfl rfl rfl rfl rfl (fun _=>A_ff (fun q=>q hlt) (ZQi rfl rfl)) ?_
 refine g_p ?_;refine z_p ?_;refine ZAY (ZAB rfl) nb' ?_;refine zy ?_;exact⟨k+1,(by show K.length-(k+1)<K.length-k;omega),rfl,hE6,hk',rfl,rfl,rfl,rfl,rfl,rfl,trivial⟩
end Go.Dw
