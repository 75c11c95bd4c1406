/- M1: contracts: records that are looked for; a further record. -/
import Derived.Laws.StructEq
import Derived.Test.YthlmgoefjmlndaaGreatDoorVG2
import Derived.Test.YthlmgoefjmlndaaGreatDoorVG21
import Derived.Test.YthlmgoefjmlndaaGreatDoorVG19
import Derived.Test.YthlmgoefjmlndaaGreatDoorVG18
set_option linter.unusedVariables false
set_option linter.unusedSimpArgs false
namespace Go.Dw
open Go Go.Dx Go.Proofs
set_option maxRecDepth 100000
def ZTO (l:List WkR)(x:WkR):Bool:=decide (∀y∈l,y.key≠x.key)
theorem ZQi {M V:List Str}(hn:V.Nodup)(hm:∀k,k∈V ↔ k∈M):(V.mergeSort fun x y=>decide (x<=y))=mrgU ltB M:=by
 have hperm:=List.mergeSort_perm V (fun x y=>decide (x<=y))
 have hsort:=List.pairwise_mergeSort (le:=fun (x y:Str)=>decide (x<=y)) (fun a b c h1 h2=>decide_eq_true (List.le_trans (of_decide_eq_true h1) (of_decide_eq_true h2))) (fun a b=>by
  simp only[Bool.or_eq_true,decide_eq_true_eq];exact List.le_total a b) V
 have hnd:(V.mergeSort fun x y=>decide (x<=y)).Nodup:=hperm.symm.nodup hn;refine ZIY ZAK ?_ fun e=>by rw[hperm.mem_iff,hm]
 refine (hsort.and hnd).imp fun {a b} h=>?_;have h1:a<=b:=of_decide_eq_true h.1
 rcases ZAK.tri a b with g|g|g
 ·exact g
 ·exact absurd g h.2
 ·exact absurd g (List.not_lt.2 h1)
def stkL (s:List WkR)(t:Int)(p:Str):List Str:=mrgU ltB ((itmW s).filter fun k=>decide (ZDn s t k=p))
def ZII (l:List WkR)(p:Str)(t:Int):List Str×Int :=
 if (chkS l).2≠0 then ([],(chkS l).2) else if ZA0 p=false then ([],6) else if t<0\/80000<t then ([],7) else (stkL (ZAZ (mrgU ltW l)) t p,0)
theorem ZOk (s:List WkR):(itmW s).length<=s.length:=by
 unfold itmW ofK;rw[List.length_map];exact List.length_filter_le _ _
set_option maxHeartbeats 4000000 in
theorem ZQA {a:Option Addr}{cap:Nat}{l:List WkR}{h:Heap}{p:Str}{t:Int}(hR:SrcK rowW 6 h a l)(hn:a=none->l=[]/\cap=0)(hf:∀x∈l,x.Fit)(hlen:Len l)(hL:WkLib h)(hp:p.length<=281474976710656) :
  Sv Tryz.prog 41 [.slice a l.length cap,str p,i64 t] h (RetP fun v h'=>(∃v1,v=.tuple ⟨[v1,i64 (ZII l p t).2]⟩/\ZAA h h' v1 9 1 ((ZII l p t).1.map str) (ZII l p t).1.length)/\Ext h h'):=by
 have hop:=ZFt hR hn hf hlen hL;unfold ZJk at hop;have hcl:=ZDV (l:=l);have hcg:=ZD7 (l:=l);unfold ZII;generalize chkS l=ck at *;refine ZAF Tryz.func41 rfl (by rw[Tryz.ntmps41];rfl) ?_;show Wc Tryz.prog ⟨41,49,none⟩ _ _ _ _ _;refine zy ?_;refine ZAI rfl rfl rfl rfl rfl Bod.h rfl rfl hop ?_;rintro _ h1 ⟨⟨hc,rfl⟩|⟨hc,aS,af,rfl,hS,-⟩,hE1⟩
 ·refine zy ?_
  refine ZAC rfl rfl rfl rfl (A_tt hc (ZA6 rfl rfl)) ?_;refine zy ?_;rw[if_pos hc];exact ZAG (ZAH rfl ⟨⟨_,rfl,.nil _ _ _ _⟩,hE1⟩)
 rw[if_neg (fun q=>q hc)];have hl2:=hcl hc;replace hcg:=hcg hc;have hup:=ZPh l;have hsl:(ZAZ (mrgU ltW l)).length<=200:=Nat.le_trans (ZFa l) hl2;have hsd:∀x∈ZAZ (mrgU ltW l),0<=x.day/\x.day<=80000:=fun x hx=>ZKu (hcg x (ZDT hx));clear hcl hcg hop;generalize ZAZ (mrgU ltW l)=S at *;generalize ZBU (mrgU ltW l)=F at *;refine zy ?_;refine ZAC rfl rfl rfl rfl (A_ff (fun q=>q rfl) (ZA6 rfl rfl)) ?_;refine zy ?_;refine ZAU rfl rfl rfl rfl rfl Bod.h rfl rfl (ZB1 p _ (by omega)) fun h2 hE12=>?_;have hE2:=hE1.trans hE12;replace hS:=hS.ext hE12
 cases hnp:ZA0 p with
 | false =>
  rw[if_pos rfl];refine zy ?_;exact ZAG (ZAH rfl ⟨⟨_,rfl,.nil _ _ _ _⟩,hE2⟩)
 | true =>
 rw[if_neg (by decide)];refine zy ?_;refine ZAR rfl rfl rfl rfl rfl Bod.h rfl rfl (ZFZ _ _ _ _) ?_
 by_cases ht:t<0\/80000<t
 ·rw[decide_eq_true ht,if_pos ht]
  refine zy ?_;exact ZAG (ZAH rfl ⟨⟨_,rfl,.nil _ _ _ _⟩,hE2⟩)
 rw[decide_eq_false ht,if_neg ht];refine zy ?_;refine ZBJ fun hw=>?_;refine ZAI rfl rfl rfl rfl rfl Bod.h rfl rfl (ZIt (t:=t) hS hup hsl hsd) ?_;rintro _ h3 ⟨hE3,bm,rfl,G,hO,hon,hlk⟩;refine zy ?_;refine ZBd strK hE3 rfl rfl Und.h rfl hO fun h4 hW4 hO4 hE34=>?_;have hE4:=hE3.trans hE34;generalize h3.nx=rr at hO4 ⊢;have hO4':=(hO4.nilSl 9 1).up2;clear hO4 hO hE3 hE34;refine zy ?_;refine ZAP (fun (st:Value×List Str) m ds h'=>ds=[]/\Ext h2 h'/\Own h2 h' (itI strK bm rr (kvG G) st.2::slI h2 st.1 9 1 ((st.2.reverse.filter fun k=>decide (ZDn S t k=p)).map str) (st.2.reverse.filter fun k=>decide (ZDn S t k=p)).length::slG rowW 44 6 h2 G)/\st.2.Nodup/\(∀k∈st.2,k∈itmW S)/\AllK m [(1,str p),(6,st.1),(32,.pointer (some ⟨rr,0,none⟩))]) (fun st=>(itmW S).length-st.2.length) (.slice none 0 0,[]) ?_ ?_
 ·exact⟨rfl,hE4,hO4',.nil,(fun _ h=>nomatch h),rfl,rfl,rfl,trivial⟩
 clear hO4' hE4 hW4;rintro⟨vs,V⟩ m ds h5 ⟨rfl,hE5,hO5,hVn,hV2,hall⟩;refine Wc.le ?_ (Le.kn hall);clear hall;simp only at hO5 hVn hV2 ⊢;have hil:=ZOk S;have hVl:=ZAw hVn hV2;have hfl:(V.reverse.filter fun k=>decide (ZDn S t k=p)).length<=200:=Nat.le_trans (List.length_filter_le _ _) (by rw[List.length_reverse];omega);refine zy ?_;refine ZB6 strK hw hE5 rfl rfl rfl hon hO5 (fun hdone=>?_) fun k v h6 hlkv hnk hC hO6 hE6=>?_
 ·have hVm:∀k,k∈V ↔ k∈itmW S:=fun k=>⟨hV2 k,fun hk=>by
   have h1:=hlk k;rw[if_pos hk] at h1
   cases hl:ZA9 k G with
   | none=>rw[hl] at h1;cases h1
   | some q=>exact hdone k q.1 (by rw[ZCL,hl];rfl)⟩
  have hset:((V.reverse.filter fun k=>decide (ZDn S t k=p)).mergeSort fun x y=>decide (x<=y))=stkL S t p:=ZQi (((List.reverse_perm V).symm.nodup hVn).filter _) fun k=>by
   simp only[List.mem_filter,List.mem_reverse,hVm]
  have hsl2:(V.reverse.filter fun k=>decide (ZDn S t k=p)).length=(stkL S t p).length:=by
   rw[<-hset,(List.mergeSort_perm _ _).length_eq]
  have hOt:=hO5.tail;refine zy ?_;refine ZBJ fun hW5=>?_;refine ZAI rfl rfl rfl rfl rfl Bod.h rfl rfl (ZHI (show ZAA h2 h5 vs 9 1 _ _ from hOt.p1) (by omega)) ?_;rintro _ h7 ⟨rfl,hF7,hX7⟩;rw[hset,hsl2] at hF7;have hE7:=hOt.grows hX7 hE5 hw;refine zy ?_;exact ZAG (ZAH rfl ⟨⟨vs,rfl,hF7.base hE2.2.1⟩,hE2.trans hE7⟩)
 have hkG:ZA9 k G=some (v,ZBS S t k)/\k∈itmW S:=by
  rw[ZCL] at hlkv;have h1:=hlk k
  cases hl:ZA9 k G with
  | none=>rw[hl] at hlkv;cases hlkv
  | some q =>
   rw[hl] at hlkv h1
   by_cases hk:k∈itmW S
   ·rw[if_pos hk] at h1
    obtain⟨q1,q2⟩:=q;simp only[Option.map_some,Option.some.injEq] at hlkv h1;rw[hlkv,h1];exact⟨rfl,hk⟩
   ·rw[if_neg hk] at h1;cases h1
 obtain⟨hlG,hki⟩:=hkG;have hlt:V.length+1<=(itmW S).length:=by
  have:=ZAw (List.nodup_cons.2 ⟨hnk,hVn⟩) (m:=itmW S) fun k' hk'=>by
   rcases List.mem_cons.1 hk' with rfl|hk'
   ·exact hki
   ·exact hV2 k' hk'
  simpa using this
 have hV3:∀k'∈k::V,k'∈itmW S:=fun k' hk'=>by
  rcases List.mem_cons.1 hk' with rfl|hk'
  ·exact hki
  ·exact hV2 k' hk'
 obtain⟨av,ev,hSv,hnv⟩:=ZAA.rowsAt (enc:=rowW) (k:=6) (fun _=>rfl) (show ZAA h2 h6 v 44 6 _ _ from hO6.tail.tail.has _ (ZFV rowW 44 6 (h0:=h2) hlG)) rfl;subst ev;have hspl:Len (ZBS S t k):=by
  have h1:=ZDm hup t k;have h2:=ZEu S t k
  show (ZBS S t k).length<_
  omega
 have hfn:∀q:Bool,decide (ZDn S t k=p)=q->((k::V).reverse.filter fun k=>decide (ZDn S t k=p))=(V.reverse.filter fun k=>decide (ZDn S t k=p))++if q=true then [k] else []:=fun q hq=>by
  rw[List.reverse_cons,List.filter_append]
  congr 1
  rw[List.filter_cons,hq]
  rfl
 refine zy ?_;refine ZDC strK rfl rfl rfl hC ?_;refine zy ?_;refine ZAU rfl rfl rfl rfl rfl Bod.h rfl rfl (ZOX hSv.1 hspl) fun h7 hE7=>?_;have hO7:=hO6.ext hE7;have hE67:=hE6.trans hE7;refine zy ?_
 by_cases hq:ZDn S t k=p
 ·have hq2:ZNm (ZBS S t k)=p:=hq
  refine ZAC rfl rfl rfl rfl (A_tt hq2 (ZAy rfl rfl)) ?_;have hfn1:=hfn true (decide_eq_true hq);rw[if_pos rfl] at hfn1;refine zy ?_;refine ZA3 rfl rfl Und.h Tsz.h Zr.h rfl rfl rfl rfl rfl fun h8 hE8 hW8 hg8 hn8=>?_;refine zy ?_;refine ZBI (k:=1) (l:=[str k]) hw (hE67.trans hE8) rfl rfl rfl rfl rfl Und.h inferInstance rfl rfl ((hO7.ext hE8).up2) (ZBE Und.h (by intro k;simp) (ZAT hg8 rfl)) rfl rfl (by omega) (by omega) fun v9 h9 hW9 hO9 hE9=>?_;refine zy ?_;refine⟨(v9,k::V),(by show (itmW S).length-(V.length+1)<(itmW S).length-V.length;omega),rfl,hE9,?_,List.nodup_cons.2 ⟨hnk,hVn⟩,hV3,rfl,rfl,rfl,trivial⟩
  simp only;rw[hfn1,List.map_append,List.length_append];exact hO9.up2
 ·have hq2:¬ZNm (ZBS S t k)=p:=hq
  refine ZAC rfl rfl rfl rfl (A_ff hq2 (ZAy rfl rfl)) ?_;have hfn1:=hfn false (decide_eq_false hq);rw[if_neg (by decide),List.append_nil] at hfn1;refine zy ?_;refine⟨(vs,k::V),(by show (itmW S).length-(V.length+1)<(itmW S).length-V.length;omega),rfl,hE67,?_,List.nodup_cons.2 ⟨hnk,hVn⟩,hV3,rfl,rfl,rfl,trivial⟩;simp only;rw[hfn1];exact hO7
end Go.Dw
namespace Go.Dw
open Go Go.Dx Go.Proofs Go.Sort Go.RowKit Go.Lib
set_option maxRecDepth 100000
def ZKM:Go.Shelf.Ren:=⟨fun|6=>82|15=>113|14=>130|28=>169|29=>170|20=>181|21=>182|22=>183|23=>184|24=>185|25=>186|26=>187|27=>188|46=>254|47=>241|48=>242|49=>255|50=>256|57=>300|n=>n,fun|22=>68|24=>82|25=>166|3=>3|39=>210|0=>0|53=>254|55=>256|4=>4|46=>248|45=>247|50=>146|5=>5|9=>9|66=>321|70=>325|76=>361|77=>362|n=>n,fun|n=>n⟩
theorem ZL6:Go.Proofs.SlLaysF0.n6 Tryz.prog ZKM:={
 mixed:=by kernel_rfl
 f6:=⟨Tryz.f82.name,by decide,Tryz.func82.trans (congrArg some (by kernel_rfl))⟩
 f14:=⟨Tryz.f130.name,by decide,Tryz.func130.trans (congrArg some (by kernel_rfl))⟩
 f15:=Tryz.func113.trans (congrArg some (by kernel_rfl))
 f20:=⟨Tryz.f181.name,by decide,Tryz.func181.trans (congrArg some (by kernel_rfl))⟩
 f21:=⟨Tryz.f182.name,by decide,Tryz.func182.trans (congrArg some (by kernel_rfl))⟩
 f22:=⟨Tryz.f183.name,by decide,Tryz.func183.trans (congrArg some (by kernel_rfl))⟩
 f23:=⟨Tryz.f184.name,by decide,Tryz.func184.trans (congrArg some (by kernel_rfl))⟩
 f24:=⟨Tryz.f185.name,by decide,Tryz.func185.trans (congrArg some (by kernel_rfl))⟩
 f25:=⟨Tryz.f186.name,by decide,Tryz.func186.trans (congrArg some (by kernel_rfl))⟩
 f26:=⟨Tryz.f187.name,by decide,Tryz.func187.trans (congrArg some (by kernel_rfl))⟩
 f27:=⟨Tryz.f188.name,by decide,Tryz.func188.trans (congrArg some (by kernel_rfl))⟩
 f28:=Tryz.func169.trans (congrArg some (by kernel_rfl))
 f29:=Tryz.func170.trans (congrArg some (by kernel_rfl))
 f46:=⟨Tryz.f254.name,by decide,Tryz.func254.trans (congrArg some (by kernel_rfl))⟩
 f47:=Tryz.func241.trans (congrArg some (by kernel_rfl))
 f48:=Tryz.func242.trans (congrArg some (by kernel_rfl))
 f49:=⟨Tryz.f255.name,by decide,Tryz.func255.trans (congrArg some (by kernel_rfl))⟩
 f50:=⟨Tryz.f256.name,by decide,Tryz.func256.trans (congrArg some (by kernel_rfl))⟩
 f57:=⟨Tryz.f300.name,by decide,Tryz.func300.trans (congrArg some (by kernel_rfl))⟩
 t0:=Tryz.underlying0
 a0:=Tryz.isAgg0
 z0:=Tryz.sizeOf0
 v0:=Tryz.zeroValue0
 t3:=Tryz.underlying3
 a3:=Tryz.isAgg3
 z3:=Tryz.sizeOf3
 v3:=Tryz.zeroValue3
 t4:=Tryz.underlying4
 a4:=Tryz.isAgg4
 z4:=Tryz.sizeOf4
 v4:=Tryz.zeroValue4
 t5:=Tryz.underlying5
 a5:=Tryz.isAgg5
 z5:=Tryz.sizeOf5
 v5:=Tryz.zeroValue5
 t9:=Tryz.underlying9
 a9:=Tryz.isAgg9
 z9:=Tryz.sizeOf9
 v9:=Tryz.zeroValue9
 t22:=Tryz.underlying68
 a22:=Tryz.isAgg68
 z22:=Tryz.sizeOf68
 v22:=Tryz.zeroValue68
 t25:=Tryz.underlying166
 a25:=Tryz.isAgg166
 z25:=Tryz.sizeOf166
 v25:=Tryz.zeroValue166
 t39:=Tryz.underlying210
 a39:=Tryz.isAgg210
 z39:=Tryz.sizeOf210
 v39:=Tryz.zeroValue210
 t45:=Tryz.underlying247
 a45:=Tryz.isAgg247
 z45:=Tryz.sizeOf247
 v45:=Tryz.zeroValue247
 t46:=Tryz.underlying248
 a46:=Tryz.isAgg248
 z46:=Tryz.sizeOf248
 v46:=Tryz.zeroValue248
 t50:=Tryz.underlying146
 a50:=Tryz.isAgg146
 z50:=Tryz.sizeOf146
 v50:=Tryz.zeroValue146
 t53:=Tryz.underlying254
 a53:=Tryz.isAgg254
 z53:=Tryz.sizeOf254
 v53:=Tryz.zeroValue254
 t55:=Tryz.underlying256
 a55:=Tryz.isAgg256
 z55:=Tryz.sizeOf256
 v55:=Tryz.zeroValue256
 t66:=Tryz.underlying321
 a66:=Tryz.isAgg321
 z66:=Tryz.sizeOf321
 v66:=Tryz.zeroValue321
 t70:=Tryz.underlying325
 a70:=Tryz.isAgg325
 z70:=Tryz.sizeOf325
 v70:=Tryz.zeroValue325
 t76:=Tryz.underlying361
 a76:=Tryz.isAgg361
 z76:=Tryz.sizeOf361
 v76:=Tryz.zeroValue361
 t77:=Tryz.underlying362
 a77:=Tryz.isAgg362
 z77:=Tryz.sizeOf362
 v77:=Tryz.zeroValue362 }
abbrev rowT (z:Twc):List Value:=[str z.1,i64 z.2.1,str z.2.2.1.1,i64 z.2.2.1.2,str z.2.2.2.1,i64 z.2.2.2.2]
noncomputable instance:DecidableRel ltTw:=fun _ _=>Classical.propDecidable _
def cmpT (x y:Twc):Int:=ZBa [cmpI ltB x.1 y.1,x.2.1-y.2.1]
theorem ZK2 {x y:Twc}:cmpT x y<0 ↔ ltB x.1 y.1\/(x.1=y.1/\x.2.1<y.2.1):=by
 unfold cmpT;simp only[ZBa]
 by_cases h:cmpI ltB x.1 y.1=0
 ·have e:=(ZKh ZAK).1 h
  rw[if_neg (fun q=>q h)]
  constructor
  ·intro q
   refine .inr ⟨e,?_⟩
   split at q <;> omega
  ·rintro (q|⟨-,q⟩)
   ·rw[e] at q;exact absurd q (ZAK.irr _)
   ·rw[if_pos (by omega)];omega
 ·rw[if_pos h]
  constructor
  ·exact fun q=>.inl (ZFz.1 q)
  ·rintro (q|⟨q,-⟩)
   ·exact ZFz.2 q
   ·exact absurd ((ZKh ZAK).2 q) h
set_option maxHeartbeats 1000000 in
theorem ZQC (x y:Twc)(hx:0<=x.2.1/\x.2.1<=80000)(hy:0<=y.2.1/\y.2.1<=80000)(h:Heap):Sv Tryz.prog 83 [.agg ⟨rowT x⟩,.agg ⟨rowT y⟩] h (RetP fun v h'=>v=i64 (cmpT x y)/\Ext h h'):=by
 refine ZAF Tryz.func83 rfl (by rw[Tryz.ntmps83];rfl) ?_;show Wc Tryz.prog ⟨83,17,none⟩ _ _ _ _ _;refine zy ?_;refine ZBp rfl rfl rfl fun h1 hE1 hW1 hg1 hn1=>?_;refine zy ?_;refine ZBp rfl rfl rfl fun h2 hE2 hW2 hg2 hn2=>?_;have k1:=hE2.get hg1;obtain⟨z1,e1⟩:∃z,z=cmpI ltB x.1 y.1:=⟨_,rfl⟩;have c1:=ZDs x.1 y.1 h2;rw[<-e1] at c1;refine zy ?_;refine ZAQ hmix [0,1,0,4,15,0,32,0,128,480,1023,2047,4095] [0,1,2,3,5,6,7,8,9] (some 4) [([10],(some 11)),([],(some 12)),([],none)] (by kernel_rfl) (by kernel_rfl) ?_;refine z_f ?_;refine z_l ?_;refine z_f ?_;refine z_l ?_;refine z_f ?_;refine z_l ?_;refine z_f ?_;refine z_l ?_;refine z_u ?_
 refine ZAM [0,1,2,3] (by kernel_rfl) rfl (ZAB rfl) rfl nb (kF (kF (kF (kF (kF (dF (dF (dF (dF nF))))))))) (ZAd rfl rfl rfl rfl rfl Bod.h c1 ?_);refine ZF9 (nk:=.sl _ _) rfl rfl rfl rfl rfl (fun _ _ hs=>N_bs hs Und.h Tsz.h Zr.h rfl rfl rfl rfl rfl) ?_;refine ZAM (h1:=(Heap.add h2 _)) [0,1,2,3,4,5,6,7,8,9,10] (by kernel_rfl) rfl (by refine t_u 9 ?_;refine t_l 8 ?_;refine t_f 7 ?_;refine t_l 6 ?_;refine t_f 5 ?_;exact ZAB rfl) rfl rfl (dF (dF (dF (dF (dF (dF nF)))))) (ZAd rfl rfl rfl rfl rfl Bod.h (ZMa (l:=[z1,x.2.1-y.2.1]) (ZMM rfl) (by simp)) ?_);refine ZAM (h1:=(Heap.add h2 _)) [0,1,2,3,4,5,6,7,8,9,10,11] (by kernel_rfl) rfl (ZAB rfl) rfl rfl nF (ZFN rfl rfl (ZBg rfl) ?_)
 refine ZAV (h1:=(Heap.add h2 _)) (ZAB rfl) rfl ?_;refine zy ?_;exact ZAG (ZAH rfl ⟨by unfold cmpT;rw[<-e1];rfl,(hE1.trans hE2).trans (Ext.add hW2 _)⟩)
theorem ZDE (l:List Twc):(l.flatMap rowT).length=l.length*6:=ZBC (enc:=rowT) (k:=6) (fun _=>rfl) l
theorem ZFw:∀l:List Twc,ZBM (l.flatMap rowT)=true
 | []=>rfl
 | x::l=>by
  rw[List.flatMap_cons]
  show ZBM (str x.1::i64 x.2.1::str x.2.2.1.1::i64 x.2.2.1.2::str x.2.2.2.1::i64 x.2.2.2.2::l.flatMap rowT)=true
  simp only[ZBM,flat,Bool.true_and];exact ZFw l
theorem swoT {L:List Twc}:SWO (ltOf fun x y:{z // z∈L}=>cmpT x.1 y.1):=by
 have e:∀x y:{z // z∈L},ltOf (fun x y:{z // z∈L}=>cmpT x.1 y.1) x y=true ↔ ltB x.1.1 y.1.1\/(x.1.1=y.1.1/\x.1.2.1<y.1.2.1):=fun x y=>by
  unfold ltOf;rw[decide_eq_true_iff,ZK2]
 have e':∀x y:{z // z∈L},ltOf (fun x y:{z // z∈L}=>cmpT x.1 y.1) x y=false ↔ ¬(ltB x.1.1 y.1.1\/(x.1.1=y.1.1/\x.1.2.1<y.1.2.1)):=fun x y=>by
  rw[<-e,Bool.not_eq_true]
 have hS:=ZAo ZAK ZBQ;refine⟨fun x=>?_,fun x y z h1 h2=>?_,fun x y z h1 h2=>?_⟩
 ·rw[e'];exact hS.irr (x.1.1,x.1.2.1)
 ·rw[e] at h1 h2 ⊢
  exact hS.tr (a:=(x.1.1,x.1.2.1)) (b:=(y.1.1,y.1.2.1)) (c:=(z.1.1,z.1.2.1)) h1 h2
 ·rw[e'] at h1 h2 ⊢
  intro h
  rcases hS.tri (x.1.1,x.1.2.1) (y.1.1,y.1.2.1) with g|g|g
  ·exact h1 g
  ·obtain⟨g1,g2⟩:=Prod.mk.inj g
   rw[g1,g2] at h;exact h2 h
  ·exact h2 (hS.tr (a:=(y.1.1,y.1.2.1)) (b:=(x.1.1,x.1.2.1)) (c:=(z.1.1,z.1.2.1)) g h)
theorem ZPX {h0 h:Heap}{v:Value}{L T:List Twc}(hF:ZAA h0 h v 82 6 (L.flatMap rowT) L.length)(hn:L.length<1000000)(hT:T.Pairwise ltTw)(hm:∀e,e∈T ↔ e∈L)(hLn:L.Nodup)(hd:∀z∈L,0<=z.2.1/\z.2.1<=80000)(ht:∀x∈L,∀y∈L,x.1=y.1->x.2.1=y.2.1->x=y)(hv0:L=[]->v=.slice none 0 0) :
  Sv Tryz.prog 82 [v,.func (.func 83) ⟨[]⟩ ⟨[]⟩] h (RetP fun r h'=>r=.tuple ⟨[]⟩/\ZAA h0 h' v 82 6 (T.flatMap rowT) L.length/\Exb (fun c=>ZA4 v=some c) h h'):=by
 refine⟨fun ι w args' hr hv=>?_⟩;obtain⟨l',rfl,hv⟩:=hv.arr
 cases hv with
 | cons hv1 hv2 =>
  cases hv2 with
  | cons hv3 hv4 =>
   cases hv4;have e3:=hv3.flat_eq rfl;subst e3
   rcases hF.lies hr hv1 (by decide) with ⟨rfl,rfl,hz,hn0⟩|⟨b,bi,op,cap,c,hb,hg,hi,rfl,hc,hle,hV,hl,hnew⟩
   ·have:L=[]:=List.eq_nil_of_length_eq_zero hn0
    subst this;have:T=[]:=List.eq_nil_iff_forall_not_mem.2 fun e he=>absurd ((hm e).1 he) List.not_mem_nil;subst this;refine (AnyF.slices_SortFunc_none ZL6 none 0 _ w).mono ?_;rintro e w' ⟨rfl,rfl⟩;exact⟨.ret (.tuple ⟨[]⟩) h,⟨rfl,ZAA.nil _ _ _ _,Exb.refl _ _⟩,ZC4 hr (VR.of_flat ι rfl) ⟨⟨Nat.le_refl _,fun _ _=>rfl,rfl,rfl⟩,rfl,Nat.le_refl _⟩⟩
   ·rcases Nat.eq_zero_or_pos L.length with h00|h00
    ·rw[hv0 (List.eq_nil_of_length_eq_zero h00)] at hb
     cases hb
    haveI:Inhabited {z // z∈L}:=⟨⟨L[0],List.getElem_mem h00⟩⟩
    have hfm:L.attach.flatMap (fun z=>rowT z.1)=L.flatMap rowT:=by
     conv=>rhs;rw[<-List.attach_map_subtype_val L]
     rw[List.flatMap_map]
    have hal:L.attach.length=L.length:=List.length_attach;have hcz:=hV.flat_eq (ZFw L);rw[ZDE] at hle hcz;have hfl:(flatK (fun z:{z // z∈L}=>rowT z.1) 6 L.attach.toArray).toList=c.toList.take (L.length*6):=by rw[ZD8 (enc:=fun z:{z // z∈L}=>rowT z.1) (k:=6) (by decide) (fun _=>rfl),hcz];exact hfm
    have hH:HoldsK (fun z:{z // z∈L}=>rowT z.1) 6 w bi.blk 0 L.attach.toArray:=ZGW (enc:=id) hc (by rw[size_flatK,List.size_toArray,hal,hfl,List.map_id]);obtain⟨hbs,-⟩:=Array.getElem?_eq_some_iff.1 hc
    have hK:=AnyQ.slices_SortFunc_total ZL6 6 Tryz.isAgg82 Tryz.sizeOf82 (fun z:{z // z∈L}=>rowT z.1) (fun _=>rfl) (fun x v hv=>by
     simp only[rowT,List.mem_cons,List.not_mem_nil,or_false] at hv
     rcases hv with rfl|rfl|rfl|rfl|rfl|rfl <;> rfl) (fun x y=>cmpT x.1 y.1) swoT 83 #[] bi.blk 0 cap L.attach.toArray w (enters_of Tryz.func83 (by kernel_rfl) rfl) (fun _ _ _ _ x y=>ZFo (args:=[.agg ⟨rowT x.1⟩,.agg ⟨rowT y.1⟩]) rfl rfl (fun h=>ZQC x.1 y.1 (hd _ x.2) (hd _ y.2) h) _) hH hbs (by simp;omega) (fun x y h1 h2=>by
      unfold ltOf at h1 h2;rw[decide_eq_false_iff_not,ZK2] at h1 h2;refine Subtype.ext (ht _ x.2 _ y.2 ?_ ?_)
      ·rcases ZAK.tri x.1.1 y.1.1 with g|g|g
       ·exact absurd (.inl g) h1
       ·exact g
       ·exact absurd (.inl g) h2
      ·rcases ZAK.tri x.1.1 y.1.1 with g|g|g
       ·exact absurd (.inl g) h1
       ·rcases Int.lt_trichotomy x.1.2.1 y.1.2.1 with q|q|q
        ·exact absurd (.inr ⟨g,q⟩) h1
        ·exact q
        ·exact absurd (.inr ⟨g.symm,q⟩) h2
       ·exact absurd (.inl g) h2)
    rw[List.size_toArray,hal] at hK;refine hK.mono ?_;rintro e w' ⟨rfl,k,os,rfl⟩;have hswo:=swoT (L:=L);have hperm:=List.mergeSort_perm L.attach (fun x y=>!(ltOf fun x y:{z // z∈L}=>cmpT x.1 y.1) y x)
    have hsort:=List.pairwise_mergeSort (le:=fun x y=>!(ltOf fun x y:{z // z∈L}=>cmpT x.1 y.1) y x) (fun a b c h1 h2=>by
     rw[Bool.not_eq_true'] at h1 h2 ⊢;exact hswo.ntrans _ _ _ h2 h1) (fun a b=>by
     rw[Bool.or_eq_true,Bool.not_eq_true',Bool.not_eq_true']
     cases hq:(ltOf fun x y:{z // z∈L}=>cmpT x.1 y.1) b a with
     | false=>exact .inl rfl
     | true =>
      refine .inr ?_
      cases hq2:(ltOf fun x y:{z // z∈L}=>cmpT x.1 y.1) a b with
      | false=>rfl
      | true=>have:=hswo.trans _ _ _ hq hq2;rw[hswo.irrefl] at this;cases this) L.attach
    have eT:L.attach.toArray.toList=L.attach:=rfl;rw[eT];generalize (L.attach.mergeSort fun x y=>!(ltOf fun x y:{z // z∈L}=>cmpT x.1 y.1) y x)=R' at *;have hpm:(R'.map Subtype.val).Perm L:=by
     have:=hperm.map Subtype.val
     rwa [List.attach_map_subtype_val] at this
    have hRn:(R'.map Subtype.val).Nodup:=hpm.symm.nodup hLn;have hRT:R'.map Subtype.val=T:=by
     refine ZOn ZG9 ?_ hT fun e=>by rw[hpm.mem_iff,hm]
     refine List.pairwise_map.2 ((hsort.and (List.pairwise_map.1 hRn)).imp fun {a b} ⟨h1,h2⟩=>?_);rw[Bool.not_eq_true'] at h1;unfold ltOf at h1;rw[decide_eq_false_iff_not,ZK2] at h1
     rcases ZAK.tri a.1.1 b.1.1 with g|g|g
     ·exact .inl g
     ·rcases Int.lt_trichotomy a.1.2.1 b.1.2.1 with q|q|q
      ·exact .inr ⟨g,.inl q⟩
      ·exact absurd (ht _ a.2 _ b.2 g q) h2
      ·exact absurd (.inr ⟨g.symm,q⟩) h1
     ·exact absurd (.inl g) h1
    have hsl:R'.length=L.length:=by have:=hpm.length_eq;rwa [List.length_map] at this
    have hRf:R'.flatMap (fun z:{z // z∈L}=>rowT z.1)=T.flatMap rowT:=by rw[<-hRT,List.flatMap_map]
    have hTl:T.length=L.length:=by rw[<-hRT,List.length_map,hsl]
    have hfs:(flatK (fun z:{z // z∈L}=>rowT z.1) 6 R'.toArray).size=L.length*6:=by rw[size_flatK,List.size_toArray,hsl]
    have hfR:(flatK (fun z:{z // z∈L}=>rowT z.1) 6 R'.toArray).toList=T.flatMap rowT:=by rw[ZD8 (enc:=fun z:{z // z∈L}=>rowT z.1) (k:=6) (by decide) (fun _=>rfl)];exact hRf
    have hP:=ZG3 (h:=h) (vs2:=T.flatMap rowT) (c2:=putCells id 0 (flatK (fun z:{z // z∈L}=>rowT z.1) 6 R'.toArray) c) (r:=.tuple ⟨[]⟩) (r':=.tuple ⟨[]⟩) hr hg hi hc ZDW (by rw[ZDE,ZDE,hTl]) (by
     have:=ZDZ (enc:=id) (d:=flatK (fun z:{z // z∈L}=>rowT z.1) 6 R'.toArray) (c:=c) (by rw[hfs];exact hle);rw[hfs,List.map_id,hfR] at this;rw[ZDE,hTl,this];exact VRL.of_flat ι (ZFw _)) (VR.of_flat ι rfl) (ZFy (enc:=id) (d:=flatK (fun z:{z // z∈L}=>rowT z.1) 6 R'.toArray) (n:=k) (os:=os) hc).1 (ZFy hc).2 rfl rfl
    refine⟨.ret (.tuple ⟨[]⟩) (h.set b (.cells (T.flatMap rowT) 82 op)),⟨rfl,hnew _ _ op (by rw[ZDE,ZDE,hTl]) (Upd.mk' h b _).at',?_⟩,hP⟩;refine (Exb.ofUpd (Upd.mk' h b _)).mono fun x hx=>by rw[hx];exact hb
end Go.Dw
namespace Go.Dw
open Go Go.Dx Go.Proofs
set_option maxRecDepth 100000
def ZKf (l:List WkR):List Twc×Int:=if (chkS l).2≠0 then ([],(chkS l).2) else (twcS (ZAZ (mrgU ltW l)),0)
theorem ZSW {s:List WkR}(hup:s.Pairwise ltW)(hs:s.length<=200){V:List Str}(hV:V.length<=200):(twL s V).length<=40000:=by
 have:=ZPc (f:=fun k=>twO k (ZBS s 80000 k)) (B:=200) (L:=V) fun k _=>by
  have h1:=ZLl k (ZBS s 80000 k) (ZBS s 80000 k).length;have h2:=ZDm hup 80000 k;have h3:=ZEu s 80000 k
  show (twF k _ _).2.2.length<=200
  omega
 have h4:V.length*200<=200*200:=Nat.mul_le_mul_right _ hV
 show (V.flatMap _).length<=_
 omega
theorem ZQM (s:List WkR)(V:List Str)(k:Str):twL s (k::V).reverse=twL s V.reverse++twO k (ZBS s 80000 k):=by
 unfold twL;rw[List.reverse_cons,List.flatMap_append,List.flatMap_cons,List.flatMap_nil,List.append_nil]
theorem ZSo (x0 x1 x2 x3 x4 x5:Value):Instr.fill (fun i=>some (i*6,6)) (rep 1 (Value.cells (.agg ⟨[str [],i64 0,str [],i64 0,str [],i64 0]⟩)).toList).toArray [(0,.agg ⟨[x0,x1,x2,x3,x4,x5]⟩)]=some ⟨[x0,x1,x2,x3,x4,x5]⟩:=by kernel_rfl
set_option maxHeartbeats 1000000 in
theorem ZQX {a:Option Addr}{cap:Nat}{l:List WkR}{h:Heap}(hR:SrcK rowW 6 h a l)(hn:a=none->l=[]/\cap=0)(hf:∀x∈l,x.Fit)(hlen:Len l)(hL:WkLib h) :
  Sv Tryz.prog 44 [.slice a l.length cap] h (RetP fun v h'=>(∃v1,v=.tuple ⟨[v1,i64 (ZKf l).2]⟩/\ZAA h h' v1 82 6 ((ZKf l).1.flatMap rowT) (ZKf l).1.length)/\Ext h h'):=by
 have hop:=ZFt hR hn hf hlen hL;unfold ZJk at hop;have hcl:=ZDV (l:=l);have hcg:=ZD7 (l:=l);unfold ZKf;generalize chkS l=ck at *;refine ZAF Tryz.func44 rfl (by rw[Tryz.ntmps44];rfl) ?_;show Wc Tryz.prog ⟨44,75,none⟩ _ _ _ _ _;refine zy ?_;refine ZAI rfl rfl rfl rfl rfl Bod.h rfl rfl hop ?_;rintro _ h1 ⟨⟨hc,rfl⟩|⟨hc,aS,af,rfl,hS,-⟩,hE1⟩
 ·refine zy ?_
  refine ZAC rfl rfl rfl rfl (A_tt hc (ZA6 rfl rfl)) ?_;refine zy ?_;rw[if_pos hc];exact ZAG (ZAH rfl ⟨⟨_,rfl,.nil _ _ _ _⟩,hE1⟩)
 rw[if_neg (fun q=>q hc)];have hl2:=hcl hc;replace hcg:=hcg hc;have hup:=ZPh l;have hsl:(ZAZ (mrgU ltW l)).length<=200:=Nat.le_trans (ZFa l) hl2;have hsd:∀x∈ZAZ (mrgU ltW l),0<=x.day/\x.day<=80000:=fun x hx=>ZKu (hcg x (ZDT hx));clear hcl hcg hop;generalize ZAZ (mrgU ltW l)=S at *;generalize ZBU (mrgU ltW l)=F at *;refine zy ?_;refine ZAC rfl rfl rfl rfl (A_ff (fun q=>q rfl) (ZA6 rfl rfl)) ?_;refine zy ?_;refine ZBJ fun hw=>?_;refine ZAI rfl rfl rfl rfl rfl Bod.h rfl rfl (ZIt (t:=80000) hS hup hsl hsd) ?_;rintro _ h3 ⟨hE3,bm,rfl,G,hO,hon,hlk⟩;refine zy ?_;refine ZBd strK hE3 rfl rfl Und.h rfl hO fun h4 hW4 hO4 hE34=>?_
 have hE4:=hE3.trans hE34;generalize h3.nx=rr at hO4 ⊢;have hO4':=(hO4.nilSl 82 6).up2;clear hO4 hO hE3 hE34;refine zy ?_;refine ZAP (fun (st:Value×List Str) m ds h'=>ds=[]/\Ext h1 h'/\Own h1 h' (itI strK bm rr (kvG G) st.2::slI h1 st.1 82 6 ((twL S st.2.reverse).flatMap rowT) (twL S st.2.reverse).length::slG rowW 44 6 h1 G)/\(twL S st.2.reverse=[]->st.1=.slice none 0 0)/\st.2.Nodup/\(∀k∈st.2,k∈itmW S)/\AllK m [(2,st.1),(23,.pointer (some ⟨rr,0,none⟩))]) (fun st=>(itmW S).length-st.2.length) (.slice none 0 0,[]) ?_ ?_
 ·exact⟨rfl,hE4,hO4',fun _=>rfl,.nil,(fun _ h=>nomatch h),rfl,rfl,trivial⟩
 clear hO4' hE4 hW4;rintro⟨vs,V⟩ m ds h5 ⟨rfl,hE5,hO5,hv0,hVn,hV2,hall⟩;refine Wc.le ?_ (Le.kn hall);clear hall;simp only at hO5 hVn hV2 hv0 ⊢;have hil:=ZOk S;have hVl:=ZAw hVn hV2;have hfl:=ZSW hup hsl (V:=V.reverse) (by rw[List.length_reverse];omega);refine zy ?_;refine ZB6 strK hw hE5 rfl rfl rfl hon hO5 (fun hdone=>?_) fun k v h6 hlkv hnk hC hO6 hE6=>?_
 ·have hVm:∀k,k∈V.reverse ↔ k∈itmW S:=fun k=>by
   rw[List.mem_reverse]
   exact⟨hV2 k,fun hk=>by
    have h1:=hlk k;rw[if_pos hk] at h1
    cases hl:ZA9 k G with
    | none=>rw[hl] at h1;cases h1
    | some q=>exact hdone k q.1 (by rw[ZCL,hl];rfl)⟩
  have hOt:=hO5.tail;have htn:(twL S V.reverse).Nodup:=ZTG ((List.reverse_perm V).symm.nodup hVn);have htl:(twcS S).length=(twL S V.reverse).length:=by
   have h1:(twcS S).Nodup:=(ZRS S).imp fun {a b} hab e=>by rw[e] at hab;exact ZG9.irr _ hab
   exact Nat.le_antisymm (ZAw h1 fun e he=>(ZO8 hVm e).1 he) (ZAw htn fun e he=>(ZO8 hVm e).2 he)
  refine zy ?_;refine ZBJ fun hW5=>?_;refine ZAI rfl rfl rfl rfl rfl Bod.h rfl rfl (ZPX (T:=twcS S) (show ZAA h1 h5 vs 82 6 _ _ from hOt.p1) (by omega) (ZRS S) (ZO8 hVm) htn (ZR3 hsd) ZSr hv0) ?_;rintro _ h7 ⟨rfl,hF7,hX7⟩;rw[<-htl] at hF7;have hE7:=hOt.grows hX7 hE5 hw;refine zy ?_;exact ZAG (ZAH rfl ⟨⟨vs,rfl,hF7.base hE1.2.1⟩,hE1.trans hE7⟩)
 have hkG:ZA9 k G=some (v,ZBS S 80000 k)/\k∈itmW S:=by
  rw[ZCL] at hlkv;have h1:=hlk k
  cases hl:ZA9 k G with
  | none=>rw[hl] at hlkv;cases hlkv
  | some q =>
   rw[hl] at hlkv h1
   by_cases hk:k∈itmW S
   ·rw[if_pos hk] at h1
    obtain⟨q1,q2⟩:=q;simp only[Option.map_some,Option.some.injEq] at hlkv h1;rw[hlkv,h1];exact⟨rfl,hk⟩
   ·rw[if_neg hk] at h1;cases h1
 obtain⟨hlG,hki⟩:=hkG;have hlt:V.length+1<=(itmW S).length:=by
  have:=ZAw (List.nodup_cons.2 ⟨hnk,hVn⟩) (m:=itmW S) fun k' hk'=>by
   rcases List.mem_cons.1 hk' with rfl|hk'
   ·exact hki
   ·exact hV2 k' hk'
  simpa using this
 have hV3:∀k'∈k::V,k'∈itmW S:=fun k' hk'=>by
  rcases List.mem_cons.1 hk' with rfl|hk'
  ·exact hki
  ·exact hV2 k' hk'
 obtain⟨av,ev,hSv,hnv⟩:=ZAA.rowsAt (enc:=rowW) (k:=6) (fun _=>rfl) (show ZAA h1 h6 v 44 6 _ _ from hO6.tail.tail.has _ (ZFV rowW 44 6 (h0:=h1) hlG)) rfl;subst ev;have hspl:(ZBS S 80000 k).length<=200:=by
  have h1:=ZDm hup 80000 k;have h2:=ZEu S 80000 k;omega
 have hsn:=ZQM S V k;have hinv:=fun i hi=>ZLW (k:=k) (ZMP (s:=S) (t:=80000) (k:=k)) i hi;have hfn:=fun i=>ZLl k (ZBS S 80000 k) i;unfold twO at hsn;have hmem:=ZFV rowW 44 6 (h0:=h1) hlG;clear hlkv hlk hlG;generalize ZBS S 80000 k=sp at *
 have hrw:∀(h':Heap) (I:List It),slI h1 (.slice av sp.length sp.length) 44 6 (sp.flatMap rowW) sp.length∈I->Own h1 h' I->ZAh 6 (fun _ row x=>row=rowW x) h' av sp:=fun h' I hI hO=>by
  obtain⟨a',e',hS',-⟩:=ZAA.rowsAt (enc:=rowW) (k:=6) (fun _=>rfl) (show ZAA h1 h' (.slice av sp.length sp.length) 44 6 (sp.flatMap rowW) sp.length from hO.has _ hI) rfl;cases e';exact hS'.1
 clear hSv hnv;generalize twL S V.reverse=B at *;refine zy ?_;refine ZDC strK rfl rfl rfl hC ?_;refine zy ?_;refine ZAP (fun (st:Nat×Value) m ds h'=>ds=[]/\Ext h1 h'/\st.1<=sp.length/\Own h1 h' (itI strK bm rr (kvG G) (k::V)::slI h1 st.2 82 6 ((B++(twF k sp st.1).2.2).flatMap rowT) (B++(twF k sp st.1).2.2).length::slG rowW 44 6 h1 G)/\(B++(twF k sp st.1).2.2=[]->st.2=.slice none 0 0)/\AllK m [(2,st.2),(6,str k),(7,.slice av sp.length sp.length),(8,i64 ((twF k sp st.1).1:Nat)),(9,.bool (twF k sp st.1).2.1),(23,.pointer (some ⟨rr,0,none⟩)),(29,.slice av sp.length sp.length),(30,i64 sp.length),(31,i64 (st.1:Nat))]) (fun st=>sp.length-st.1) (0,vs) ?_ ?_
 ·refine⟨rfl,hE6,Nat.zero_le _,?_,?_,rfl,rfl,rfl,rfl,rfl,rfl,rfl,rfl,rfl,trivial⟩
  ·simp only[twF,List.append_nil];exact hO6
  ·simp only[twF,List.append_nil];exact hv0
 rintro⟨i,va⟩ m ds h7 ⟨rfl,hE7,hi,hO7,hz7,hall⟩;refine Wc.le ?_ (Le.kn hall);clear hall;simp only at hi hO7 hz7 ⊢;refine zy ?_;refine ZAS rfl rfl rfl rfl (ZAc rfl rfl) (fun hil=>?_) (fun hil=>?_);rotate_left
 ·have:i=sp.length:=by omega
  subst this;rw[<-hsn] at hO7 hz7;refine zy ?_;exact⟨(va,k::V),(by show (itmW S).length-(V.length+1)<(itmW S).length-V.length;omega),rfl,hE7,hO7,hz7,List.nodup_cons.2 ⟨hnk,hVn⟩,hV3,rfl,rfl,trivial⟩
 have hi':i<sp.length:=by omega
 have hI:=hinv i hi;have hfi:=hfn i;obtain⟨b,t,o,hst⟩:∃b t o,twF k sp i=(b,t,o):=⟨_,_,_,rfl⟩;rw[hst] at hI hO7 hz7 hfi ⊢;simp only at hO7 hz7 hfi;have hbl:b<sp.length:=by
  rcases Nat.eq_zero_or_pos i with h0|h0
  ·have:=hI.b0 h0
   cases this;omega
  ·have:=hI.bl h0
   simp only at this;omega
 clear hI;have hRw:=hrw h7 _ (List.mem_cons_of_mem _ (List.mem_cons_of_mem _ hmem)) hO7;obtain⟨bS,oS,oaS,rfl,row,hrow,hx⟩:=hRw i hi';have ex:row=rowW sp[i]:=hx;have hxi:sp.getD i recZ=sp[i]:=by rw[List.getD_eq_getElem?_getD,List.getElem?_eq_getElem hi'];rfl
 have hyb:sp.getD b recZ=sp[b]:=by rw[List.getD_eq_getElem?_getD,List.getElem?_eq_getElem hbl];rfl
 clear hx;have hnew:=ZS4 (k:=k) (l:=sp) (i:=i) (b:=b) (t:=t) (o:=o) hst;have htold:=fun ht:t=true=>ZSV (k:=k) (l:=sp) (i:=i) (b:=b) (o:=o) (by rw[hst,ht]);have hsame:=fun ht:t=false=>ZR0 (k:=k) (l:=sp) (i:=i) (b:=b) (o:=o) (by rw[hst,ht]);have hadd:=fun ht:t=false=>ZSv (k:=k) (l:=sp) (i:=i) (b:=b) (o:=o) (by rw[hst,ht]);rw[hxi,hyb] at hnew htold hsame hadd;have hyE:∃y,y=sp[b]:=⟨_,rfl⟩;obtain⟨y,hyE⟩:=hyE;rw[<-hyE] at hnew htold hsame hadd;have hxE:∃x,x=sp[i]:=⟨_,rfl⟩;obtain⟨x,hxE⟩:=hxE;rw[<-hxE] at hnew htold hsame hadd ex;subst ex;refine zy ?_;refine ZAC rfl rfl rfl rfl (A_ix Und.h Tsz.h rfl rfl) ?_
 refine zy ?_;refine ZBJ fun hw7=>?_;refine ZB8 rfl rfl Zr.h fun h8 hE8 hW8 hg8 hn8=>?_;have hO8:=hO7.newCe hw7 hE7.2.1 hE8 hg8 (Nat.le_refl _);have hE78:=hE7.trans hE8;generalize h7.nx=bx at hO8 hg8 ⊢;refine zy ?_;refine ZDy (r:=rowW x) hw hE78 rfl Tsz.h rfl rfl hO8 rfl rfl rfl fun h9 hW9 hO9 hE9=>?_;have hgx:h9.get bx=some (.cells (rowW x) 44 false):=hO9.p1;have hRw9:=hrw h9 _ (List.mem_cons_of_mem _ (List.mem_cons_of_mem _ (List.mem_cons_of_mem _ hmem))) hO9;obtain⟨bS',oS',oaS',eS',row',hrow',hx'⟩:=hRw9 b hbl;cases eS';have ex':row'=rowW sp[b]:=hx';rw[<-hyE] at ex';subst ex';have hx2:ZAb h9 bx (0+2)=some (i64 x.day):=ZAY hgx rfl
 have hx5:ZAb h9 bx (0+5)=some (str x.b):=ZAY hgx rfl;have hy2:ZAb h9 bS (oS+b*6+2)=some (i64 y.day):=ZAW (k:=2) hrow' rfl;have hy5:ZAb h9 bS (oS+b*6+5)=some (str y.b):=ZAW (k:=5) hrow' rfl;clear hO8 hO7 hRw hRw9 hrow hE78 hE8 hg8
 by_cases hd:x.day≠y.day
 ·have hst2:=hnew hd
  refine zy ?_;refine ZAQ hmix [0,1,0,0,12,28,60,127] [0,1,2,3,4,5,6,7] none [] (by kernel_rfl) (by kernel_rfl) ?_;refine z_f ?_;refine z_l ?_;refine z_m ?_;refine z_m ?_;refine ZAE rfl rfl rfl rfl rfl (fun _=>A_ix (k:=b) Und.h Tsz.h rfl rfl hbl) ?_;refine z_f ?_;refine z_l ?_;refine ZAE rfl rfl rfl rfl rfl (fun _=>A_tt hd (ZA6 rfl rfl)) ?_;refine ZAV (ZAB rfl) nb' ?_;refine zy ?_;have hRw9:=hrw h9 _ (List.mem_cons_of_mem _ (List.mem_cons_of_mem _ (List.mem_cons_of_mem _ hmem))) hO9;obtain⟨bS',oS',oaS',eS',row',hrow3,hx'⟩:=hRw9 i hi';cases eS';have ex':row'=rowW sp[i]:=hx';rw[<-hxE] at ex';subst ex'
  have hz5:ZAb h9 bS (oS+i*6+5)=some (str x.b):=ZAW (k:=5) hrow3 rfl;refine ZAQ hmix [0,1,3,7,15,7,7,103,231,487,1023,2047] [0,1,2,3,4,5,6,7,8,9,10,11] none [] (by kernel_rfl) (by kernel_rfl) ?_;refine z_m ?_;refine z_n ?_;refine z_m ?_;refine g_f ?_;refine g_l ?_;refine g_m ?_;refine g_m ?_
  first|refine ZAv rfl rfl rfl rfl ?_|refine ZAE rfl rfl rfl rfl rfl (fun _=>A_ix (k:=i) Und.h Tsz.h rfl rfl hi') ?_
  refine g_f ?_;refine g_l ?_
  first|refine ZAv rfl rfl rfl rfl ?_|refine ZAE rfl rfl rfl rfl rfl (fun _=>A_ff (fun q=>q rfl) (ZAl rfl rfl)) ?_
  refine z_p ?_;refine ZAV (ZAB rfl) nb' ?_;refine zy ?_;refine⟨(i+1,va),(by show sp.length-(i+1)<sp.length-i;omega),rfl,hE9,hi',?_,?_,rfl,rfl,rfl,?_,?_,rfl,rfl,rfl,rfl,trivial⟩
  all_goals simp only[hst2]
  ·exact hO9.tail
  ·exact hz7
  ·rfl
  ·rfl
 have hds:x.day=y.day:=Decidable.not_not.1 hd
 cases t with
 | true =>
  have hst2:=htold rfl hd;refine zy ?_;refine ZAQ hmix [0,1,0,0,12,28,60,127] [0,1,2,3,4,5,6,7] none [] (by kernel_rfl) (by kernel_rfl) ?_;refine z_f ?_;refine z_l ?_;refine z_m ?_;refine z_m ?_;refine ZAE rfl rfl rfl rfl rfl (fun _=>A_ix (k:=b) Und.h Tsz.h rfl rfl hbl) ?_;refine z_f ?_;refine z_l ?_;refine ZAE rfl rfl rfl rfl rfl (fun _=>A_ff hd (ZA6 rfl rfl)) ?_;refine ZAV (ZAB rfl) nb' ?_;refine zy ?_;refine ZAQ hmix [0,1,3,7,15,7,7,103,231,487,1023,2047] [0,1,2,3,4,5,6,7,8,9,10,11] none [] (by kernel_rfl) (by kernel_rfl) ?_;refine z_m ?_;refine z_n ?_;refine z_m ?_;refine g_f ?_;refine g_l ?_;refine g_m ?_;refine g_m ?_;refine z_o ?_;refine g_f ?_;refine g_l ?_;refine z_o ?_;refine z_p ?_
  refine ZAV (ZAB rfl) nb' ?_;refine zy ?_;refine⟨(i+1,va),(by show sp.length-(i+1)<sp.length-i;omega),rfl,hE9,hi',?_,?_,rfl,rfl,rfl,?_,?_,rfl,rfl,rfl,rfl,trivial⟩
  all_goals simp only[hst2]
  ·exact hO9.tail
  ·exact hz7
  ·rfl
  ·rfl
 | false =>
  by_cases hbb:x.b≠y.b
  rotate_left
  ·have hst2:=hsame rfl hd hbb
   refine zy ?_;refine ZAQ hmix [0,1,0,0,12,28,60,127] [0,1,2,3,4,5,6,7] none [] (by kernel_rfl) (by kernel_rfl) ?_;refine z_f ?_;refine z_l ?_;refine z_m ?_;refine z_m ?_;refine ZAE rfl rfl rfl rfl rfl (fun _=>A_ix (k:=b) Und.h Tsz.h rfl rfl hbl) ?_;refine z_f ?_;refine z_l ?_;refine ZAE rfl rfl rfl rfl rfl (fun _=>A_ff hd (ZA6 rfl rfl)) ?_;refine ZAV (ZAB rfl) nb' ?_;refine zy ?_;refine ZAQ hmix [0,1,3,7,15,7,7,103,231,487,1023,2047] [0,1,2,3,4,5,6,7,8,9,10,11] none [] (by kernel_rfl) (by kernel_rfl) ?_;refine z_m ?_;refine z_n ?_;refine z_m ?_;refine g_f ?_;refine g_l ?_;refine g_m ?_;refine g_m ?_
   first|refine ZAv rfl rfl rfl rfl ?_|refine ZAE rfl rfl rfl rfl rfl (fun _=>A_ix (k:=b) Und.h Tsz.h rfl rfl hbl) ?_
   refine g_f ?_;refine g_l ?_
   first|refine ZAv rfl rfl rfl rfl ?_|refine ZAE rfl rfl rfl rfl rfl (fun _=>A_ff hbb (ZAl rfl rfl)) ?_
   refine z_p ?_;refine ZAV (ZAB rfl) nb' ?_;refine zy ?_;refine⟨(i+1,va),(by show sp.length-(i+1)<sp.length-i;omega),rfl,hE9,hi',?_,?_,rfl,rfl,rfl,?_,?_,rfl,rfl,rfl,rfl,trivial⟩
   all_goals simp only[hst2]
   ·exact hO9.tail
   ·exact hz7
   ·rfl
   ·rfl
  have hst2:=hadd rfl hd hbb;refine zy ?_;refine ZAQ hmix [0,1,0,0,12,28,60,127] [0,1,2,3,4,5,6,7] none [] (by kernel_rfl) (by kernel_rfl) ?_;refine z_f ?_;refine z_l ?_;refine z_m ?_;refine z_m ?_;refine ZAE rfl rfl rfl rfl rfl (fun _=>A_ix (k:=b) Und.h Tsz.h rfl rfl hbl) ?_;refine z_f ?_;refine z_l ?_;refine ZAE rfl rfl rfl rfl rfl (fun _=>A_ff hd (ZA6 rfl rfl)) ?_;refine ZAV (ZAB rfl) nb' ?_;refine zy ?_;refine ZAQ hmix [0,1,3,7,15,7,7,103,231,487,1023,2047] [0,1,2,3,4,5,6,7,8,9,10,11] none [] (by kernel_rfl) (by kernel_rfl) ?_;refine z_m ?_;refine z_n ?_;refine z_m ?_;refine g_f ?_;refine g_l ?_;refine g_m ?_;refine g_m ?_
  first|refine ZAv rfl rfl rfl rfl ?_|refine ZAE rfl rfl rfl rfl rfl (fun _=>A_ix (k:=b) Und.h Tsz.h rfl rfl hbl) ?_
  refine g_f ?_;refine g_l ?_
  first|refine ZAv rfl rfl rfl rfl ?_|refine ZAE rfl rfl rfl rfl rfl (fun _=>A_tt hbb (ZAl rfl rfl)) ?_
  refine z_p ?_;refine ZAV (ZAB rfl) nb' ?_;refine zy ?_;refine ZAQ hmix [0,0,0,4,0,0,48,112,240,0,1008,2046,4094,8191,16383] [0,1,2,3,4,5,6,7,9] (some 8) [([],(some 10)),([11,12],(some 13)),([],(some 14)),([],none)] (by kernel_rfl) (by kernel_rfl) ?_;refine z_m ?_;refine z_m ?_;refine z_f ?_;refine z_l ?_;refine z_m ?_;refine z_m ?_;refine ZAE rfl rfl rfl rfl rfl (fun _=>A_ix (k:=b) Und.h Tsz.h rfl rfl hbl) ?_;refine z_r ?_;refine z_r ?_;refine ZAM [4,5,6,7] (by kernel_rfl) rfl (ZAB rfl) rfl nb (kF (dF (dF (dF (dF (kF (kF (kF (kF nF))))))))) (ZCE (ZA5 rfl rfl rfl rfl rfl Bod.h (ZIH y _) (fun h10 hE10 hw10=>?_)))
  have hgx10:=hE10.get hgx;have hrow10:=hE10.row hrow';have hx210:=hE10.cell hx2;refine ZAM [4,5,6,7,8,9] (by kernel_rfl) rfl (by refine t_r 9 ?_;refine t_l 3 ?_;refine t_f 2 ?_;refine t_m 1 ?_;refine t_m 0 ?_;exact ZAB rfl) rfl nb (dF (kF (kF (kF (kF nF))))) (ZCE (ZA5 rfl rfl rfl rfl rfl Bod.h (ZIH x _) (fun h11 hE11 hw11=>?_)));have hgx11:=hE11.get hgx10;have hrow11:=hE11.row hrow10;have hx211:=hE11.cell hx210;have hO11:=((hO9.ext hE10).ext hE11).up3;have hE911:=(hE9.trans hE10).trans hE11;have hEa:=Ext.add hw11 (.cells (rowT (k,x.day,y.key,x.key)) 82 false);have hgxa:=hEa.get hgx11;have hrowa:=hEa.row hrow11
  have hx2a:=hEa.cell hx211;have hbd:(B++o).length<=50000:=by rw[List.length_append];omega
  refine ZAE rfl rfl rfl rfl rfl (fun _=>ZB9 (v:=.agg ⟨rowT (k,x.day,y.key,x.key)⟩) rfl (by kernel_rfl)) ?_;refine ZF9 (nk:=.sl _ _) rfl rfl rfl rfl rfl (fun _ _ hs=>N_bs hs Und.h Tsz.h Zr.h rfl rfl rfl rfl (ZSo _ _ _ _ _ _)) ?_;refine ZAM (h1:=(Heap.add h11 _)) [0,1,2,3,4,5,6,7,8,9,10,11,12] (by kernel_rfl) rfl (by refine t_l 3 ?_;refine t_f 2 ?_;refine t_m 1 ?_;refine t_m 0 ?_;exact ZAB rfl) rfl rfl (dF (dF (dF (dF (dF (dF nF)))))) (ZCE (ZC5 (by':=72) (sz:=6) (k:=1) (n:=(B++o).length) (l:=rowT (k,x.day,y.key,x.key)) rfl hw (hE911.trans hEa) rfl rfl rfl rfl Und.h inferInstance rfl rfl (hO11.ext hEa) ((ZAA.lit (h0:=h1) (n:=1) (sz:=6) Heap.get_add_same rfl hE911.2.1).src (dd:=.slice 82) Und.h (by intro k;simp)) rfl rfl (by omega) (by omega) (fun v12 h12 hO12 hE12 hw12=>?_)))
  have hgx12:h12.get bx=some (.cells (rowW x) 44 false):=hO12.p2;have hx212:ZAb h12 bx (0+2)=some (i64 x.day):=ZAY hgx12 rfl;have hRw12:=hrw h12 _ (List.mem_cons_of_mem _ (List.mem_cons_of_mem _ (List.mem_cons_of_mem _ hmem))) hO12;obtain⟨bS',oS',oaS',eS',row',hrow12,hx'⟩:=hRw12 b hbl;cases eS';have ex':row'=rowW sp[b]:=hx';rw[<-hyE] at ex';subst ex';refine ZAM (h1:=h12) [0,1,2,3,4,5,6,7,8,9,10,11,12,13] (by kernel_rfl) rfl (ZAB rfl) rfl rfl nF (ZFN rfl rfl (ZBg rfl) ?_);refine ZAV (h1:=h12) (ZAB rfl) rfl ?_;refine zy ?_;have e6:(B++(o++[(k,x.day,y.key,x.key)]))=(B++o)++[(k,x.day,y.key,x.key)]:=(List.append_assoc _ _ _).symm
  refine⟨(i+1,v12),(by show sp.length-(i+1)<sp.length-i;omega),rfl,hE12,hi',?_,?_,rfl,rfl,rfl,?_,?_,rfl,rfl,rfl,rfl,trivial⟩
  all_goals simp only[hst2]
  ·rw[e6,List.flatMap_append,List.length_append]
   have h1:=hO12.up2.tail.up2;exact h1
  ·intro q
   simp at q
  ·rfl
  ·rfl
section
variable {P:Program}
theorem ZDj (d:Nat)(xs:Array Value)(w:World):∀(fs:List Field),(∀p∈fs.map (fun f=>(f.type,f.offset)),∃a,(part p.1 xs p.2).run P w=.ok a w/\(Op.equalIn d p.1 a a).run P w=.ok true w)->(Op.eqFields d xs xs fs).run P w=.ok true w
 | [],_=>rfl
 | f::fs,h=>by
  have ih:=ZDj d xs w fs fun p hp=>h p (List.mem_cons_of_mem _ hp);obtain⟨a,h1,h2⟩:=h (f.type,f.offset) List.mem_cons_self;simp only at h1 h2;simp only[Op.eqFields]
  split
  ·simp only[Sem.run_bind,h1,Result.andThen_ok,h2,Bool.not_true,Bool.false_eq_true,if_false]
   exact ih
  ·exact ih
theorem ZKB {t:TypeId}{dd:TypeDesc}{n:Nat}(hu:P.underlying t=some dd)(hd:ZCm dd=true)(hz:tsz P t=some n)(cs:Array Value)(o:Nat)(w:World):(part t cs o).run P w=.ok (.agg (cs.extract o (o+n))) w:=by
 simp only[part,Sem.run_bind,ZCa hu,Result.andThen_ok,hd,if_true,Dx.run_sizeOf hz,Sem.run_pure]
end
theorem ZQj (z:Twc)(d:Nat)(w:World):(Op.equalIn (d+3) 82 (.agg ⟨rowT z⟩) (.agg ⟨rowT z⟩)).run Tryz.prog w=.ok true w:=by
 have hs:∀(s:List UInt8) (d:Nat) (w:World),(Op.equalIn (d+1) 9 (str s) (str s)).run Tryz.prog w=.ok true w:=fun s d w=>by
  simp[Op.equalIn,run_underlying Tryz.underlying9,ZGk]
 have hi:∀(n:Int) (d:Nat) (w:World),(Op.equalIn (d+1) 3 (i64 n) (i64 n)).run Tryz.prog w=.ok true w:=fun n d w=>by
  simp[Op.equalIn,run_underlying Tryz.underlying3]
 have hk:∀(k:Key) (d:Nat) (w:World),(Op.equalIn (d+2) 51 (.agg ⟨rowK k⟩) (.agg ⟨rowK k⟩)).run Tryz.prog w=.ok true w:=fun k d w=>by
  rw[run_equalIn_struct _ _ _ _ _ (by kernel_rfl) (by kernel_rfl)];refine ZDj _ _ _ _ fun p hp=>?_;have e:((Tryz.prog.fieldsOf 51).toList.map fun f=>(f.type,f.offset))=[(9,0),(3,1)]:=by kernel_rfl
  rw[e] at hp;simp only[List.mem_cons,List.not_mem_nil,or_false] at hp
  rcases hp with rfl|rfl
  ·exact⟨str k.1,ZCn Tryz.underlying9 rfl rfl w,hs _ _ _⟩
  ·exact⟨i64 k.2,ZCn Tryz.underlying3 rfl rfl w,hi _ _ _⟩
 rw[run_equalIn_struct _ _ _ _ _ (by kernel_rfl) (by kernel_rfl)];refine ZDj _ _ _ _ fun p hp=>?_;have e:((Tryz.prog.fieldsOf 82).toList.map fun f=>(f.type,f.offset))=[(9,0),(3,1),(51,2),(51,4)]:=by kernel_rfl
 rw[e] at hp;simp only[List.mem_cons,List.not_mem_nil,or_false] at hp
 rcases hp with rfl|rfl|rfl|rfl
 ·exact⟨str z.1,ZCn Tryz.underlying9 rfl rfl w,hs _ _ _⟩
 ·exact⟨i64 z.2.1,ZCn Tryz.underlying3 rfl rfl w,hi _ _ _⟩
 ·exact⟨.agg ⟨rowK z.2.2.1⟩,ZKB (n:=2) Tryz.underlying51 rfl Tsz.h _ _ w,hk _ _ _⟩
 ·exact⟨.agg ⟨rowK z.2.2.2⟩,ZKB (n:=2) Tryz.underlying51 rfl Tsz.h _ _ w,hk _ _ _⟩
theorem twG:Tryz.prog.eqGuardType Tryz.prog.depth 82=false:=by kernel_rfl
theorem ZSP {m:Mem}{h:Heap}{d:Option Tmp}{ty:TypeId}{pos:String}{af:Array Edge}{gu:Option (Nat×Bool)}{tz:TypeId}{z:Twc}{x y:Operand}(hx:opk h m x=some (.agg ⟨rowT z⟩))(hy:opk h m y=some (.agg ⟨rowT z⟩)) :
  Aop Tryz.prog ⟨d,.binOp .neq 82 x y tz,ty,pos,af,gu⟩ m h (.bool false) h :=
 ZCi hx hy rfl rfl rfl fun w=>by
  simp only[Sem.run_bind,run_eqGuard_agg _ _ _ _ _ _ _ twG,Result.andThen_ok];rw[run_neq_struct];rw[ZQj z 9997 w];rfl
set_option maxHeartbeats 1000000 in
theorem ZQS {a a':Option Addr}{c c':Nat}{l:List Twc}{h:Heap}(h1:ZAh 6 (fun _ row x=>row=rowT x) h a l)(h2:ZAh 6 (fun _ row x=>row=rowT x) h a' l)(hlen:Len l):Sv Tryz.prog 46 [.slice a l.length c,.slice a' l.length c'] h (RetP fun v h'=>v=.bool true/\h'=h):=by
 refine ZAF Tryz.func46 rfl (by rw[Tryz.ntmps46];rfl) ?_;show Wc Tryz.prog ⟨46,26,none⟩ _ _ _ _ _;refine zy ?_;refine ZAC rfl rfl rfl rfl (A_ff (fun q=>q rfl) (ZA6 rfl rfl)) ?_;refine zy ?_;refine ZAP (fun (j:Nat) m ds h'=>ds=[]/\h=h'/\j<=l.length/\AllK m [(0,.slice a l.length c),(1,.slice a' l.length c'),(5,i64 (j:Nat))]) (fun j=>l.length-j) 0 ?_ ?_
 ·exact⟨rfl,rfl,Nat.zero_le _,rfl,rfl,rfl,trivial⟩
 rintro j m ds h' ⟨rfl,rfl,hj,hall⟩;refine Wc.le ?_ (Le.kn hall);clear hall;refine zy ?_;refine ZAS rfl rfl rfl rfl (ZAc rfl rfl) (fun hjl=>?_) (fun hjl=>?_);rotate_left
 ·refine zy ?_
  exact ZAG (ZAH rfl ⟨rfl,rfl⟩)
 have hj':j<l.length:=by omega
 obtain⟨b,o,oa,rfl,row,hr,hx⟩:=h1 j hj';obtain⟨b',o',oa',rfl,row',hr',hx'⟩:=h2 j hj';have e1:row=rowT l[j]:=hx;have e2:row'=rowT l[j]:=hx';clear hx hx';generalize l[j]=x at *;subst e1;subst e2;refine zy ?_;refine ZAQ hmix [0,0,3,7,0,0,48,112,255] [0,1,2,3,4,5,6,7,8] none [] (by kernel_rfl) (by kernel_rfl) ?_;refine z_m ?_;refine z_m ?_;refine ZAE rfl rfl rfl rfl rfl (fun _=>A_ix (k:=j) Und.h Tsz.h rfl rfl) ?_;refine z_r ?_;refine z_m ?_;refine z_m ?_;refine ZAE rfl rfl rfl rfl rfl (fun _=>A_ix (k:=j) Und.h Tsz.h rfl rfl) ?_;refine z_r ?_;refine ZAE rfl rfl rfl rfl rfl (fun _=>ZSP (z:=x) rfl rfl) ?_
 refine ZAV (ZAB rfl) nb' ?_;refine zy ?_;exact⟨j+1,(by show l.length-(j+1)<l.length-j;omega),rfl,rfl,hj',rfl,rfl,rfl,trivial⟩
end Go.Dw
