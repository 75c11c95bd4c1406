/- MW: chapter 12 with no program in sight: what the further examples come to. -/
import Derived.Test.YthlmgoefjmlndaaGreatDoorVG22
import Derived.Test.YthlmgoefjmlndaaGreatDoorVG19
import Derived.Test.YthlmgoefjmlndaaGreatDoorVG24
import Derived.Test.YthlmgoefjmlndaaGreatDoorVG2
set_option linter.unusedVariables false
set_option linter.unusedSimpArgs false
namespace Go.Dw
open Go Go.Dx Go.Proofs
set_option maxRecDepth 100000
def ZSX:Str:=[99,114,97,116,101]
def ZKo:WkR:=⟨ZCF,5,11,6,ZCF,[49]⟩
def ZH2:WkR:=⟨ZCF,6,20,5,ZA2,ZSX⟩
theorem ZSI:ZNW catL ZBw ZFf=([],0):=by kernel_rfl
theorem ZSf:clsL catL catL=[((ZCF,2),[ZBw,35::ZA2,ZAq])]:=by kernel_rfl
theorem ZQm (j:Nat)(hj:j<3):ZF4 catL ZA2 (([11,12,20]:List Int)[j])=(([[],ZF1,sLab]:List Str)[j],0):=by
 rcases j with _|_|_|j
 ·kernel_rfl
 ·kernel_rfl
 ·kernel_rfl
 ·omega
theorem ZPg:ZF4 catL ZFj 20=([],0):=by kernel_rfl
theorem ZOH:ZII catL ZF1 19=([ZA2],0):=by kernel_rfl
theorem ZN6:ZII catL sLab 20=([ZA2],0):=by kernel_rfl
theorem ZS7:chkS (catL++[ZKo])=(0,0):=by kernel_rfl
def knW:List WkO:=[([ZAq],[],ZM1),([ZBw],[ZA2],ZHh),([ZFf],[ZFj],[])]
theorem ZQT:ZOB (ZAZ (mrgU ltW (catL++[ZKo])))=knW:=by kernel_rfl
theorem ZSd:ZAZ (mrgU ltW (catL++[ZE1]))=catL.take 7:=by kernel_rfl
theorem ZRD:ZKf (catL++[ZH2])=([(ZA2,20,(ZGL,4),(ZCF,6))],0):=by kernel_rfl
theorem ZSZ:(∀x∈catL++[ZKo],x.Fit)/\∀x∈catL++[ZH2],x.Fit:=by
 constructor
 ·intro x hx
  rcases List.mem_append.1 hx with hx|hx
  ·exact ZCw x hx
  ·rw[List.mem_singleton.1 hx];exact⟨by decide,by decide,by decide⟩
 ·intro x hx
  rcases List.mem_append.1 hx with hx|hx
  ·exact ZCw x hx
  ·rw[List.mem_singleton.1 hx];exact⟨by decide,by decide,by decide⟩
def knD:List Int:=[11,12,20]
def knP:List Str:=[[],ZF1,sLab]
theorem ZOj (j:Nat)(hj:j<knD.length)(hj2:j<knP.length):ZF4 catL ZA2 knD[j]=(knP[j],0):=ZQm j hj
def knC:List Cls:=[((ZCF,2),[ZBw,35::ZA2,ZAq])]
theorem ZSA {h:Heap}{b b1:Nat}{op o1:Bool}(hg:h.get b=some (.cells [str ZCF,i64 2,.slice (some ⟨b1,0,none⟩) 3 3] 62 op))(h1:h.get b1=some (.cells [str ZBw,str (35::ZA2),str ZAq] 9 o1)):ZAh 3 ClsR h (some ⟨b,0,none⟩) knC:=by
 intro i hi;have hi2:i<1:=hi
 rcases i with _|i
 ·exact⟨b,0,none,rfl,_,ZAT hg rfl,_,_,rfl,ZBD (l:=[ZBw,35::ZA2,ZAq]) h1⟩
 ·omega
theorem ZRk {h:Heap}{b b1 b2 b3 b4 b5:Nat}{op o1 o2 o3 o4 o5:Bool}(hg:h.get b=some (.cells [.slice (some ⟨b1,0,none⟩) 1 1,.slice none 0 0,str ZM1,.slice (some ⟨b2,0,none⟩) 1 1,.slice (some ⟨b3,0,none⟩) 1 1,str ZHh,.slice (some ⟨b4,0,none⟩) 1 1,.slice (some ⟨b5,0,none⟩) 1 1,str []] 41 op))(h1:h.get b1=some (.cells [str ZAq] 9 o1))(h2:h.get b2=some (.cells [str ZBw] 9 o2))(h3:h.get b3=some (.cells [str ZA2] 9 o3))(h4:h.get b4=some (.cells [str ZFf] 9 o4))(h5:h.get b5=some (.cells [str ZFj] 9 o5)):ZCx h (.slice (some ⟨b,0,none⟩) 3 3) knW:=by
 refine⟨_,3,rfl,fun i hi=>?_⟩;have hi2:i<3:=hi
 rcases i with _|_|_|i
 ·exact⟨b,0,none,rfl,_,ZAT hg rfl,_,_,_,_,rfl,ZBD (l:=[ZAq]) h1,fun j hj=>absurd hj (Nat.not_lt_zero _)⟩
 ·exact⟨b,0,none,rfl,_,ZAT hg rfl,_,_,_,_,rfl,ZBD (l:=[ZBw]) h2,ZBD (l:=[ZA2]) h3⟩
 ·exact⟨b,0,none,rfl,_,ZAT hg rfl,_,_,_,_,rfl,ZBD (l:=[ZFf]) h4,ZBD (l:=[ZFj]) h5⟩
 ·omega
set_option maxHeartbeats 16000000 in
theorem ZI7 {h:Heap}(hL:WkLib h):Sv Tryz.prog 16 [] h (RetP fun v h'=>v=.bool true/\Ext h h'):=by
 refine ZDM fun hw=>?_;refine ZAF Tryz.func16 rfl (by rw[Tryz.ntmps16];rfl) ?_;show Wc Tryz.prog ⟨16,181,none⟩ _ _ _ _ _;refine zy ?_;refine ZAI rfl rfl rfl rfl rfl Bod.h rfl rfl ZBc ?_;rintro _ h1 ⟨hF1,hE1⟩;obtain⟨aT,eT,hTk⟩:=ZAA.takeOk (P:=Tryz.prog) hF1 Tsz.h;obtain⟨a1,rfl,hS1,hn1⟩:=ZAA.rowsAt (enc:=rowW) (k:=6) (fun _=>rfl) hF1 rfl;obtain rfl:a1=aT:=by injection eT
 have hn1':a1=none->catL=[]/\catL.length=0:=fun e=>⟨hn1 e,by rw[hn1 e];rfl⟩;have hwsv:=fun (k:Str) (t:Int) (h':Heap) (e:Ext h1 h')=>ZIm (k:=k) (t:=t) (hS1.ext e) hn1' ZCw (by decide) (hL.ext (hE1.trans e));have hssv:=fun (k:Str) (t:Int) (h':Heap) (e:Ext h1 h') (hk:k.length<=281474976710656)=>ZQA (p:=k) (t:=t) (hS1.ext e) hn1' ZCw (by decide) (hL.ext (hE1.trans e)) hk;have hsame:=ZNt (a:=ZBw) (b:=ZFf) hS1 hn1' ZCw (by decide) (hL.ext hE1) (by decide) (by decide);rw[ZSI] at hsame;have hclsv:=fun (h':Heap) (e:Ext h1 h')=>ZMx (hS1.ext e) hn1' ZCw (by decide) (hL.ext (hE1.trans e));rw[ZPy,ZSf,ZOt] at hclsv
 have hRT:=ZAh.take hS1.1 7;obtain⟨cT,hTA⟩:=ZRf (t:=22) (n:=7) (kj:=.i64) Und.h Tsz.h hTk (by decide);clear hF1 eT hTk;refine zy ?_;refine ZAI rfl rfl rfl rfl rfl Bod.h rfl rfl hsame ?_;rintro _ h2 ⟨v2,rfl,hF2,hE2⟩;obtain⟨a2,rfl,-,-⟩:=ZAA.list (α:=Str) (enc:=str) (l:=[]) hF2;clear hsame hF2;refine zy ?_;refine ZAI rfl rfl rfl rfl rfl Bod.h rfl rfl (hclsv h2 hE2) ?_;rintro _ h3 ⟨⟨hc,-⟩|⟨-,aC,cC,rfl,hCl⟩,hE3⟩
 ·exact absurd rfl hc
 have hE13:=hE2.trans hE3;clear hE2 hE3 hclsv;refine zy ?_;refine ZAC rfl rfl rfl rfl (A_ff (fun q=>q rfl) (ZA6 rfl rfl)) ?_;refine zy ?_;refine ZAC rfl rfl rfl rfl (A_ff (fun q=>q rfl) (ZA6 rfl rfl)) ?_;refine zy ?_;refine ZAC rfl rfl rfl rfl (A_ff (fun q=>q rfl) (ZA6 rfl rfl)) ?_;refine zy ?_;refine ZA3 (cs:=[str ZBw,str (35::ZA2),str ZAq]) rfl rfl Und.h Tsz.h Zr.h rfl rfl rfl rfl rfl fun h4 hE4 hW4 hg4 hn4=>?_;refine ZAC rfl rfl rfl rfl (ZB9 (v:=.agg ⟨[str ZCF,i64 2,.slice (some ⟨h3.nx,0,none⟩) 3 3]⟩) rfl (by kernel_rfl)) ?_;refine ZA3 (cs:=[str ZCF,i64 2,.slice (some ⟨h3.nx,0,none⟩) 3 3]) rfl rfl Und.h Tsz.h Zr.h rfl rfl rfl rfl (by kernel_rfl) fun h5 hE5 hW5 hg5 hn5=>?_
 refine ZAR rfl rfl rfl rfl rfl Bod.h rfl rfl (ZQ6 (l:=knC) (ZAh.ext (R:=ClsR) (fun hr he=>ClsR.ext hr he) hCl (hE4.trans hE5)) (ZSA hg5 (hE5.get hg4)) (by decide) (fun x hx=>by
  rw[List.mem_singleton.1 hx];decide)) ?_
 have hE15:=hE13.trans (hE4.trans hE5);clear hg4 hg5 hE4 hE5 hE13 hCl;refine zy ?_;refine ZA3 (cs:=[i64 11,i64 12,i64 20]) rfl rfl Und.h Tsz.h Zr.h rfl rfl rfl rfl rfl fun h6 hE6 hW6 hg6 hn6=>?_;refine ZA3 (cs:=[str [],str ZF1,str sLab]) rfl rfl Und.h Tsz.h Zr.h rfl rfl rfl rfl rfl fun h7 hE7 hW7 hg7 hn7=>?_;have hD:=ZBD (enc:=i64) (l:=knD) (sp:=none) (hE7.get hg6);have hP:=ZBD (enc:=str) (l:=knP) (sp:=none) hg7;generalize (some ⟨h5.nx,0,none⟩:Option Addr)=aD at hD ⊢;generalize (some ⟨h6.nx,0,none⟩:Option Addr)=aP at hP ⊢;have hE17:=hE15.trans (hE6.trans hE7);clear hg6 hg7 hE6 hE7 hE15;refine zy ?_
 refine ZAP (fun (j:Nat) m ds h'=>ds=[]/\Ext h7 h'/\j<=3/\AllK m [(1,.slice a1 catL.length catL.length),(6,.slice aD 3 3),(7,.slice aP 3 3),(8,i64 (j:Nat))]) (fun j=>3-j) 0 ?_ ?_
 ·exact⟨rfl,Ext.refl _,Nat.zero_le _,rfl,rfl,rfl,rfl,trivial⟩
 rintro j m ds h8 ⟨rfl,hE8,hj,hall⟩;refine Wc.le ?_ (Le.kn hall);clear hall;refine zy ?_;refine ZAS rfl rfl rfl rfl (ZAc rfl rfl) (fun hjl=>?_) (fun hjl=>?_);rotate_left
 ·have hE18:=hE17.trans hE8
  clear hE8 hE17 hD hP;refine zy ?_;refine ZAI rfl rfl rfl rfl rfl Bod.h rfl rfl (hwsv ZFj 20 h8 hE18) ?_;rw[ZPg];rintro _ h9 ⟨rfl,hE9⟩;have hE19:=hE18.trans hE9;refine zy ?_;refine ZAI rfl rfl rfl rfl rfl Bod.h rfl rfl (hssv ZF1 19 h9 hE19 (by decide)) ?_;rw[ZOH];rintro _ h10 ⟨⟨v10,rfl,hF10⟩,hE10⟩;obtain⟨aV,rfl,-,hL10⟩:=ZAA.list (α:=Str) (enc:=str) (l:=[ZA2]) hF10;refine zy ?_;refine ZAI rfl rfl rfl rfl rfl Bod.h rfl rfl (hssv sLab 20 h10 (hE19.trans hE10) (by decide)) ?_;rw[ZN6];rintro _ h11 ⟨⟨v11,rfl,hF11⟩,hE11⟩;obtain⟨aB,rfl,-,hL11⟩:=ZAA.list (α:=Str) (enc:=str) (l:=[ZA2]) hF11;replace hL10:=hL10.ext hE11
  have hE111:=hE19.trans (hE10.trans hE11);clear hF10 hF11 hE9 hE10 hE11 hE19 hE18 hwsv hssv;refine zy ?_;refine ZAU rfl rfl rfl rfl rfl Bod.h rfl rfl (ZDg ZKo _) fun h12 hE12=>?_;refine ZAI rfl rfl rfl rfl rfl Bod.h rfl rfl (ZJK ZKo) ?_;rintro _ h13 ⟨hF13,hE13⟩;obtain⟨a13,rfl,hS13,hn13⟩:=ZAA.rowsAt (enc:=rowW) (k:=6) (fun _=>rfl) hF13 rfl;have hn13':a13=none->catL++[ZKo]=[]/\(catL++[ZKo]).length=0:=fun e=>⟨hn13 e,by rw[hn13 e];rfl⟩;refine zy ?_;refine ZAI rfl rfl rfl rfl rfl Bod.h rfl rfl (ZMb hS13 hn13' ZSZ.1 (by decide) (hL.ext (hE1.trans (hE111.trans (hE12.trans hE13))))) ?_;rintro _ h14 ⟨⟨hc,-⟩|⟨-,va,rfl,hWa⟩,hE14⟩
  ·rw[ZS7] at hc;exact absurd rfl hc
  rw[ZQT] at hWa;have hE1114:=hE12.trans (hE13.trans hE14);replace hL10:=hL10.ext hE1114;replace hL11:=hL11.ext hE1114;have hE114:=hE111.trans hE1114;clear hF13 hS13 hn13 hn13' hE12 hE13 hE14 hE1114 hE111;refine zy ?_;refine ZAC rfl rfl rfl rfl (A_ff (fun q=>q rfl) (ZA6 rfl rfl)) ?_;refine zy ?_;refine ZAC rfl rfl rfl rfl (A_ff (fun q=>q rfl) (ZA6 rfl rfl)) ?_;refine zy ?_;refine ZAC rfl rfl rfl rfl (A_ff (fun q=>q rfl) (ZA6 rfl rfl)) ?_;refine zy ?_;refine ZAC rfl rfl rfl rfl (A_ff (fun q=>q rfl) (ZA6 rfl rfl)) ?_;refine zy ?_;refine ZAC rfl rfl rfl rfl (A_ff (fun q=>q rfl) (ZAl rfl rfl)) ?_;refine zy ?_
  refine ZA3 (cs:=[str ZA2]) rfl rfl Und.h Tsz.h Zr.h rfl rfl rfl rfl rfl fun h15 hE15 hW15 hg15 hn15=>?_;refine ZAR rfl rfl rfl rfl rfl Bod.h rfl rfl (ZC6 (l:=[ZA2]) (hL10.ext hE15) (ZBD hg15) (by decide)) ?_;refine zy ?_;refine ZA3 (cs:=[str ZA2]) rfl rfl Und.h Tsz.h Zr.h rfl rfl rfl rfl rfl fun h16 hE16 hW16 hg16 hn16=>?_;refine ZAR rfl rfl rfl rfl rfl Bod.h rfl rfl (ZC6 (l:=[ZA2]) (hL11.ext (hE15.trans hE16)) (ZBD hg16) (by decide)) ?_;have hE116:=hE114.trans (hE15.trans hE16);replace hWa:=hWa.ext (hE15.trans hE16);clear hL10 hL11 hg15 hg16 hE15 hE16 hE114;refine zy ?_;refine ZA3 (cs:=[str ZAq]) rfl rfl Und.h Tsz.h Zr.h rfl rfl rfl rfl rfl fun h17 hE17 hW17 hg17 hn17=>?_
  refine ZAC rfl rfl rfl rfl (ZB9 (v:=.agg ⟨[.slice (some ⟨h16.nx,0,none⟩) 1 1,.slice none 0 0,str ZM1]⟩) rfl (by kernel_rfl)) ?_;refine ZA3 (cs:=[str ZBw]) rfl rfl Und.h Tsz.h Zr.h rfl rfl rfl rfl rfl fun h18 hE18 hW18 hg18 hn18=>?_;refine ZA3 (cs:=[str ZA2]) rfl rfl Und.h Tsz.h Zr.h rfl rfl rfl rfl rfl fun h19 hE19 hW19 hg19 hn19=>?_;refine ZAC rfl rfl rfl rfl (ZB9 (v:=.agg ⟨[.slice (some ⟨h17.nx,0,none⟩) 1 1,.slice (some ⟨h18.nx,0,none⟩) 1 1,str ZHh]⟩) rfl (by kernel_rfl)) ?_;refine ZA3 (cs:=[str ZFf]) rfl rfl Und.h Tsz.h Zr.h rfl rfl rfl rfl rfl fun h20 hE20 hW20 hg20 hn20=>?_;refine ZA3 (cs:=[str ZFj]) rfl rfl Und.h Tsz.h Zr.h rfl rfl rfl rfl rfl fun h21 hE21 hW21 hg21 hn21=>?_
  refine ZAC rfl rfl rfl rfl (ZB9 (v:=.agg ⟨[.slice (some ⟨h19.nx,0,none⟩) 1 1,.slice (some ⟨h20.nx,0,none⟩) 1 1,str []]⟩) rfl (by kernel_rfl)) ?_;refine ZA3 (cs:=[.slice (some ⟨h16.nx,0,none⟩) 1 1,.slice none 0 0,str ZM1,.slice (some ⟨h17.nx,0,none⟩) 1 1,.slice (some ⟨h18.nx,0,none⟩) 1 1,str ZHh,.slice (some ⟨h19.nx,0,none⟩) 1 1,.slice (some ⟨h20.nx,0,none⟩) 1 1,str []]) rfl rfl Und.h Tsz.h Zr.h rfl rfl rfl rfl (by kernel_rfl) fun h22 hE22 hW22 hg22 hn22=>?_;have e22:=hE22;have e21:=hE21.trans e22;have e20:=hE20.trans e21;have e19:=hE19.trans e20;have e18:=hE18.trans e19;have hWb:=ZRk hg22 (e18.get hg17) (e19.get hg18) (e20.get hg19) (e21.get hg20) (e22.get hg21)
  have hE122:=hE116.trans (hE17.trans e18);replace hWa:=hWa.ext (hE17.trans e18)
  refine ZAR rfl rfl rfl rfl rfl Bod.h rfl rfl (ZH4 hWa hWb (by decide) (fun w hw=>by
   simp only[knW,List.mem_cons,List.not_mem_nil,or_false] at hw
   rcases hw with rfl|rfl|rfl <;> exact⟨by decide,by decide⟩)) ?_
  clear hg17 hg18 hg19 hg20 hg21 hg22 hWa hWb e18 e19 e20 e21 e22 hE17 hE18 hE19 hE20 hE21 hE22 hE116;refine zy ?_;refine ZAU rfl rfl rfl rfl rfl Bod.h rfl rfl (ZDg ZE1 _) fun h23 hE23=>?_;refine ZAI rfl rfl rfl rfl rfl Bod.h rfl rfl (ZJK ZE1) ?_;rintro _ h24 ⟨hF24,hE24⟩;obtain⟨a24,rfl,hS24,hn24⟩:=ZAA.rowsAt (enc:=rowW) (k:=6) (fun _=>rfl) hF24 rfl;have hn24':a24=none->catL++[ZE1]=[]/\(catL++[ZE1]).length=0:=fun e=>⟨hn24 e,by rw[hn24 e];rfl⟩;refine zy ?_;refine ZAI rfl rfl rfl rfl rfl Bod.h rfl rfl (ZHE hS24 hn24' ZN1 (by decide) (hL.ext (hE1.trans (hE122.trans (hE23.trans hE24))))) ?_;rintro _ h25 ⟨⟨hc,-⟩|⟨-,aS,af,rfl,hSs,hSf,-,-⟩,hE25⟩
  ·rw[ZMF] at hc;exact absurd rfl hc
  rw[ZMB] at hSf ⊢;rw[ZSd] at hSs ⊢;replace hSs:=hSs.1;replace hSf:=hSf.1;have hE125:=hE122.trans (hE23.trans (hE24.trans hE25));clear hF24 hS24 hn24 hn24' hE23 hE24 hE25 hE122;refine zy ?_;refine ZAU rfl rfl rfl rfl rfl Bod.h rfl rfl (ZDg ZH2 _) fun h26 hE26=>?_;refine ZAI rfl rfl rfl rfl rfl Bod.h rfl rfl (ZJK ZH2) ?_;rintro _ h27 ⟨hF27,hE27⟩;obtain⟨a27,rfl,hS27,hn27⟩:=ZAA.rowsAt (enc:=rowW) (k:=6) (fun _=>rfl) hF27 rfl;have hn27':a27=none->catL++[ZH2]=[]/\(catL++[ZH2]).length=0:=fun e=>⟨hn27 e,by rw[hn27 e];rfl⟩;refine zy ?_;refine ZAI rfl rfl rfl rfl rfl Bod.h rfl rfl (ZQX hS27 hn27' ZSZ.2 (by decide) (hL.ext (hE1.trans (hE125.trans (hE26.trans hE27))))) ?_
  rw[ZRD];rintro _ h28 ⟨⟨v28,rfl,hF28⟩,hE28⟩;obtain⟨a28,rfl,hS28,-⟩:=ZAA.rowsAt (enc:=rowT) (k:=6) (l:=[(ZA2,20,(ZGL,4),(ZCF,6))]) (fun _=>rfl) hF28 rfl;have e28:=hE26.trans (hE27.trans hE28);have hE128:=hE125.trans e28;replace hSs:=ZAh.ext (fun hr _=>hr) hSs e28;replace hSf:=ZAh.ext (fun hr _=>hr) hSf e28;replace hRT:=ZAh.ext (fun hr _=>hr) hRT hE128;replace hS28:=hS28.1;clear hF28 hF27 hS27 hn27 hn27' hE26 hE27 hE28 hE125 e28;refine zy ?_;refine ZAC rfl rfl rfl rfl (A_tt rfl (ZBr rfl rfl)) ?_;refine zy ?_;refine ZAC rfl rfl rfl rfl (A_tt rfl (ZBr rfl rfl)) ?_;refine zy ?_;refine ZAC rfl rfl rfl rfl (hTA rfl rfl) ?_
  refine ZAR rfl rfl rfl rfl rfl Bod.h rfl rfl (ZPn (l:=catL.take 7) hSs hRT (by decide)) ?_;refine zy ?_;refine ZA3 (cs:=rowK (ZCF,4)) rfl rfl Und.h Tsz.h Zr.h rfl rfl rfl rfl rfl fun h29 hE29 hW29 hg29 hn29=>?_
  refine ZAR rfl rfl rfl rfl rfl Bod.h rfl rfl (ZJ6 (l:=[(ZCF,4)]) (ZAh.ext (fun hr _=>hr) hSf hE29) (fun i hi=>by
   have:i=0:=by simpa using hi
   subst this;exact⟨_,0,none,rfl,_,ZAT hg29 rfl,rfl⟩) (by decide)) ?_
  refine zy ?_;refine ZA3 (cs:=rowT (ZA2,20,(ZGL,4),(ZCF,6))) rfl rfl Und.h Tsz.h Zr.h rfl rfl rfl rfl (ZSo _ _ _ _ _ _) fun h30 hE30 hW30 hg30 hn30=>?_
  refine ZAR rfl rfl rfl rfl rfl Bod.h rfl rfl (ZQS (l:=[(ZA2,20,(ZGL,4),(ZCF,6))]) (ZAh.ext (fun hr _=>hr) hS28 (hE29.trans hE30)) (fun i hi=>by
   have:i=0:=by simpa using hi
   subst this;exact⟨_,0,none,rfl,_,ZAT hg30 rfl,rfl⟩) (by decide)) ?_
  have hE130:=hE1.trans (hE128.trans (hE29.trans hE30));refine zy ?_;refine ZAU rfl rfl rfl rfl rfl Bod.h rfl rfl (ZNb (hL.ext hE130)) fun h31 hE31=>?_;refine zy ?_;exact ZAG (ZAH rfl ⟨rfl,hE130.trans hE31⟩)
 have hj':j<3:=by omega
 have hkn:=ZOj j hj' hj';obtain⟨bD,oD,oaD,rfl,hcD⟩:=hD j hj';obtain⟨bP,oP,oaP,rfl,hcP⟩:=hP j hj';replace hcD:=hE8.cell hcD;replace hcP:=hE8.cell hcP;clear hD hP;generalize knD[j]=dj at *;generalize knP[j]=pj at *;refine zy ?_;refine ZAC rfl rfl rfl rfl (A_ix Und.h Tsz.h rfl rfl) ?_;refine zy ?_;refine ZAI rfl rfl rfl rfl rfl Bod.h rfl rfl (hwsv ZA2 dj h8 (hE17.trans hE8)) ?_;rw[hkn];rintro _ h9 ⟨rfl,hE9⟩;replace hcP:=hE9.cell hcP;refine zy ?_;refine ZAC rfl rfl rfl rfl (A_ff (fun q=>q rfl) (ZA6 rfl rfl)) ?_;refine zy ?_;refine ZAC rfl rfl rfl rfl (A_ix Und.h Tsz.h rfl rfl) ?_;refine zy ?_;refine ZAC rfl rfl rfl rfl (A_ff (fun q=>q rfl) (ZAl rfl rfl)) ?_
 refine zy ?_;exact⟨j+1,(by show 3-(j+1)<3-j;omega),rfl,hE8.trans hE9,hj',rfl,rfl,rfl,rfl,trivial⟩
end Go.Dw
