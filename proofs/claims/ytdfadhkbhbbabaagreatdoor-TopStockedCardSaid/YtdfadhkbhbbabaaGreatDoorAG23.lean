/- M1: contracts: records that are looked for; a further record. -/
import Derived.Test.YtdfadhkbhbbabaaGreatDoorAG22
import Derived.Test.YtdfadhkbhbbabaaGreatDoorAG20
import Derived.Test.YtdfadhkbhbbabaaGreatDoorAG2
set_option linter.unusedVariables false
set_option linter.unusedSimpArgs false
namespace Go.Dw
open Go Go.Dx Go.Proofs
set_option maxRecDepth 100000
theorem ZTB {M V:List Str}(hn:V.Nodup)(hm:∀k,k∈V ↔ k∈M):(V.mergeSort fun x y=>decide (x<=y))=mrgU ltB M:=by
 have hperm:=List.mergeSort_perm V (fun x y=>decide (x<=y))
 have hsort:=List.pairwise_mergeSort (le:=fun (x y:Str)=>decide (x<=y)) (fun a b c h1 h2=>decide_eq_true (List.le_trans (of_decide_eq_true h1) (of_decide_eq_true h2))) (fun a b=>by
  simp only[Bool.or_eq_true,decide_eq_true_eq];exact List.le_total a b) V
 have hnd:(V.mergeSort fun x y=>decide (x<=y)).Nodup:=hperm.symm.nodup hn;refine ZJS ZAR ?_ fun e=>by rw[hperm.mem_iff,hm]
 refine (hsort.and hnd).imp fun {a b} h=>?_;have h1:a<=b:=of_decide_eq_true h.1
 rcases ZAR.tri a b with g|g|g
 ·exact g
 ·exact absurd g h.2
 ·exact absurd g (List.not_lt.2 h1)
def stkL (s:List WkR)(t:Int)(p:Str):List Str:=mrgU ltB ((itmW s).filter fun k=>decide (ZC0 s t k=p))
def ZIh (l:List WkR)(p:Str)(t:Int):List Str×Int :=
 if (chkS l).2≠0 then ([],(chkS l).2) else if ZA7 p=false then ([],6) else if t<0\/80000<t then ([],7) else (stkL (ZAk (mrgU ltW l)) t p,0)
theorem ZTf (s:List WkR):(itmW s).length<=s.length:=by
 unfold itmW ofK;rw[List.length_map];exact List.length_filter_le _ _
set_option maxHeartbeats 4000000 in
theorem ZSo {a:Option Addr}{cap:Nat}{l:List WkR}{h:Heap}{p:Str}{t:Int}(hR:SrcK rowW 6 h a l)(hn:a=none->l=[]/\cap=0)(hf:∀x∈l,x.Fit)(hlen:Len l)(hL:WkLib h)(hp:p.length<=281474976710656) :
  Sv Tryz.prog 10 [.slice a l.length cap,str p,i64 t] h (RetP fun v h'=>(∃v1,v=.tuple ⟨[v1,i64 (ZIh l p t).2]⟩/\ZAF h h' v1 9 1 ((ZIh l p t).1.map str) (ZIh l p t).1.length)/\Ext h h'):=by
 have hop:=ZGS hR hn hf hlen hL;unfold ZKq at hop;have hcl:=ZE9 (l:=l);have hcg:=ZEa (l:=l);unfold ZIh;generalize chkS l=ck at *;refine ZAG Tryz.func10 rfl (by rw[Tryz.ntmps10];rfl) ?_;show Wc Tryz.prog ⟨10,49,none⟩ _ _ _ _ _;refine zy ?_;refine ZAa rfl rfl rfl rfl rfl Bod.h rfl rfl hop ?_;rintro _ h1 ⟨⟨hc,rfl⟩|⟨hc,aS,af,rfl,hS,-⟩,hE1⟩
 ·refine zy ?_
  refine zD (A_tt hc (ZAh rfl rfl)) ?_;rw[if_pos hc];exact ZAC (ZAD rfl ⟨⟨_,rfl,.nil _ _ _ _⟩,hE1⟩)
 rw[if_neg (fun q=>q hc)];have hl2:=hcl hc;replace hcg:=hcg hc;have hup:=ZPr l;have hsl:(ZAk (mrgU ltW l)).length<=200:=Nat.le_trans (ZIB l) hl2;have hsd:∀x∈ZAk (mrgU ltW l),0<=x.day/\x.day<=80000:=fun x hx=>ZM3 (hcg x (ZFB hx));clear hcl hcg hop;generalize ZAk (mrgU ltW l)=S at *;generalize ZCB (mrgU ltW l)=F at *;refine zy ?_;refine zD (A_ff (fun q=>q rfl) (ZAh rfl rfl)) ?_;refine zW (ZBc p _ (by omega)) fun h2 hE12=>?_;have hE2:=hE1.trans hE12;replace hS:=hS.ext hE12
 cases hnp:ZA7 p with
 | false =>
  rw[if_pos rfl];refine zy ?_;exact ZAC (ZAD rfl ⟨⟨_,rfl,.nil _ _ _ _⟩,hE2⟩)
 | true =>
 rw[if_neg (by decide)];refine zy ?_;refine zU (ZGI _ _ _ _) ?_
 by_cases ht:t<0\/80000<t
 ·rw[decide_eq_true ht,if_pos ht]
  refine zy ?_;exact ZAC (ZAD rfl ⟨⟨_,rfl,.nil _ _ _ _⟩,hE2⟩)
 rw[decide_eq_false ht,if_neg ht];refine zy ?_;refine ZBC fun hw=>?_;refine zR (ZJi (t:=t) hS hup hsl hsd) ?_;rintro _ h3 ⟨hE3,bm,rfl,G,hO,hon,hlk⟩;refine zy ?_;refine ZB0 strK hE3 rfl rfl Und.h rfl hO fun h4 hW4 hO4 hE34=>?_;have hE4:=hE3.trans hE34;generalize h3.nx=rr at hO4 ⊢;have hO4':=(hO4.nilSl 9 1).up2;clear hO4 hO hE3 hE34;refine zy ?_;refine ZAN (fun (st:Value×List Str) m ds h'=>ds=[]/\Ext h2 h'/\Own h2 h' (itI strK bm rr (kvG G) st.2::slI h2 st.1 9 1 ((st.2.reverse.filter fun k=>decide (ZC0 S t k=p)).map str) (st.2.reverse.filter fun k=>decide (ZC0 S t k=p)).length::slG rowW 45 6 h2 G)/\st.2.Nodup/\(∀k∈st.2,k∈itmW S)/\AllK m [(1,str p),(6,st.1),(32,.pointer (some ⟨rr,0,none⟩))]) (fun st=>(itmW S).length-st.2.length) (.slice none 0 0,[]) ?_ ?_
 ·exact⟨rfl,hE4,hO4',.nil,(fun _ h=>nomatch h),rfl,rfl,rfl,trivial⟩
 clear hO4' hE4 hW4;rintro⟨vs,V⟩ m ds h5 ⟨rfl,hE5,hO5,hVn,hV2,hall⟩;refine Wc.le ?_ (Le.kn hall);clear hall;simp only at hO5 hVn hV2 ⊢;have hil:=ZTf S;have hVl:=ZBH hVn hV2;have hfl:(V.reverse.filter fun k=>decide (ZC0 S t k=p)).length<=200:=Nat.le_trans (List.length_filter_le _ _) (by rw[List.length_reverse];omega);refine zy ?_;refine ZCG strK hw hE5 rfl rfl rfl hon hO5 (fun hdone=>?_) fun k v h6 hlkv hnk hC hO6 hE6=>?_
 ·have hVm:∀k,k∈V ↔ k∈itmW S:=fun k=>⟨hV2 k,fun hk=>by
   have h1:=hlk k;rw[if_pos hk] at h1
   cases hl:ZBQ k G with
   | none=>rw[hl] at h1;cases h1
   | some q=>exact hdone k q.1 (by rw[ZCl,hl];rfl)⟩
  have hset:((V.reverse.filter fun k=>decide (ZC0 S t k=p)).mergeSort fun x y=>decide (x<=y))=stkL S t p:=ZTB (((List.reverse_perm V).symm.nodup hVn).filter _) fun k=>by
   simp only[List.mem_filter,List.mem_reverse,hVm]
  have hsl2:(V.reverse.filter fun k=>decide (ZC0 S t k=p)).length=(stkL S t p).length:=by
   rw[<-hset,(List.mergeSort_perm _ _).length_eq]
  have hOt:=hO5.tail;refine zy ?_;refine ZBC fun hW5=>?_;refine zR (ZHT (show ZAF h2 h5 vs 9 1 _ _ from hOt.p1) (by omega)) ?_;rintro _ h7 ⟨rfl,hF7,hX7⟩;rw[hset,hsl2] at hF7;have hE7:=hOt.grows hX7 hE5 hw;refine zy ?_;exact ZAC (ZAD rfl ⟨⟨vs,rfl,hF7.base hE2.2.1⟩,hE2.trans hE7⟩)
 have hkG:ZBQ k G=some (v,ZBn S t k)/\k∈itmW S:=by
  rw[ZCl] at hlkv;have h1:=hlk k
  cases hl:ZBQ k G with
  | none=>rw[hl] at hlkv;cases hlkv
  | some q =>
   rw[hl] at hlkv h1
   by_cases hk:k∈itmW S
   ·rw[if_pos hk] at h1
    obtain⟨q1,q2⟩:=q;simp only[Option.map_some,Option.some.injEq] at hlkv h1;rw[hlkv,h1];exact⟨rfl,hk⟩
   ·rw[if_neg hk] at h1;cases h1
 obtain⟨hlG,hki⟩:=hkG;have hlt:V.length+1<=(itmW S).length:=by
  have:=ZBH (List.nodup_cons.2 ⟨hnk,hVn⟩) (m:=itmW S) fun k' hk'=>by
   rcases List.mem_cons.1 hk' with rfl|hk'
   ·exact hki
   ·exact hV2 k' hk'
  simpa using this
 have hV3:∀k'∈k::V,k'∈itmW S:=fun k' hk'=>by
  rcases List.mem_cons.1 hk' with rfl|hk'
  ·exact hki
  ·exact hV2 k' hk'
 obtain⟨av,ev,hSv,hnv⟩:=ZAF.rowsAt (enc:=rowW) (k:=6) (fun _=>rfl) (show ZAF h2 h6 v 45 6 _ _ from hO6.tail.tail.has _ (ZHS rowW 45 6 (h0:=h2) hlG)) rfl;subst ev;have hspl:Len (ZBn S t k):=by
  have h1:=ZFW hup t k;have h2:=ZG3 S t k
  show (ZBn S t k).length<_
  omega
 have hfn:∀q:Bool,decide (ZC0 S t k=p)=q->((k::V).reverse.filter fun k=>decide (ZC0 S t k=p))=(V.reverse.filter fun k=>decide (ZC0 S t k=p))++if q=true then [k] else []:=fun q hq=>by
  rw[List.reverse_cons,List.filter_append]
  congr 1
  rw[List.filter_cons,hq]
  rfl
 refine zy ?_;refine ZDk strK rfl rfl rfl hC ?_;refine zy ?_;refine zW (ZQE hSv.1 hspl) fun h7 hE7=>?_;have hO7:=hO6.ext hE7;have hE67:=hE6.trans hE7;refine zy ?_
 by_cases hq:ZC0 S t k=p
 ·have hq2:ZK0 (ZBn S t k)=p:=hq
  refine zE (A_tt hq2 (ZBB rfl rfl)) ?_;have hfn1:=hfn true (decide_eq_true hq);rw[if_pos rfl] at hfn1;refine zy ?_;refine ZBg rfl rfl Und.h Tsz.h Zr.h rfl rfl rfl rfl rfl fun h8 hE8 hW8 hg8 hn8=>?_;refine zy ?_;refine ZAo (k:=1) (l:=[str k]) hw (hE67.trans hE8) rfl rfl rfl rfl rfl Und.h inferInstance rfl rfl ((hO7.ext hE8).up2) (ZAs Und.h (by intro k;simp) (ZAP hg8 rfl)) rfl rfl (by omega) (by omega) fun v9 h9 hW9 hO9 hE9=>?_;refine zy ?_;refine⟨(v9,k::V),(by show (itmW S).length-(V.length+1)<(itmW S).length-V.length;omega),rfl,hE9,?_,List.nodup_cons.2 ⟨hnk,hVn⟩,hV3,rfl,rfl,rfl,trivial⟩;simp only
  rw[hfn1,List.map_append,List.length_append];exact hO9.up2
 ·have hq2:¬ZK0 (ZBn S t k)=p:=hq
  refine zE (A_ff hq2 (ZBB rfl rfl)) ?_;have hfn1:=hfn false (decide_eq_false hq);rw[if_neg (by decide),List.append_nil] at hfn1;refine zy ?_;refine⟨(vs,k::V),(by show (itmW S).length-(V.length+1)<(itmW S).length-V.length;omega),rfl,hE67,?_,List.nodup_cons.2 ⟨hnk,hVn⟩,hV3,rfl,rfl,rfl,trivial⟩;simp only;rw[hfn1];exact hO7
end Go.Dw
