/- MG: contracts: the reference's items, where, Where and Stock. -/
import Derived.Laws.StructEq
import Derived.Test.YthlmgoefjmlndaaGreatDoorYG2
import Derived.Test.YthlmgoefjmlndaaGreatDoorYG21
import Derived.Test.YthlmgoefjmlndaaGreatDoorYG22
import Derived.Test.YthlmgoefjmlndaaGreatDoorYG17
import Derived.Test.YthlmgoefjmlndaaGreatDoorYG18
set_option linter.unusedVariables false
set_option linter.unusedSimpArgs false
namespace Go.Dw
open Go Go.Dx Go.Proofs
set_option maxRecDepth 100000
theorem ZPT {s:List WkR}{j:Nat}(hj:j<s.length):itmW (s.take (j+1))=itmW (s.take j)++if s[j].kind=1\/s[j].kind=5 then [s[j].a] else []:=by
 rw[List.take_add_one,List.getElem?_eq_getElem hj];unfold itmW ofK;rw[Option.toList_some,List.filter_append,List.map_append]
 congr 1
 by_cases h:s[j].kind=1\/s[j].kind=5
 ·rw[if_pos h,List.filter_cons_of_pos (by simpa using h)];rfl
 ·rw[if_neg h,List.filter_cons_of_neg (by simpa using h)];rfl
theorem ZE5 {a:Option Addr}{cap:Nat}{s:List WkR}{h:Heap}(hR:ZDC h a s)(hlen:s.length<=100000) :
  Sv Tryz.prog 78 [.slice a s.length cap] h (RetP fun v h'=>ZAA h h' v 9 1 ((mrgU ltB (itmW s)).map str) (mrgU ltB (itmW s)).length/\Ext h h'):=by
 refine ZAG Tryz.func78 rfl (by rw[Tryz.ntmps78];rfl) ?_;show Wc Tryz.prog ⟨78,33,none⟩ _ _ _ _ _;refine zy ?_
 refine ZAQ (fun (st:Nat×Value) m ds h'=>ds=[]/\Ext h h'/\st.1<=s.length/\ZAA h h' st.2 9 1 ((mrgU ltB (itmW (s.take st.1))).map str) (mrgU ltB (itmW (s.take st.1))).length ∧
   AllK m [(0,.slice a s.length cap),(3,st.2),(4,i64 st.1)]) (fun st=>s.length-st.1) (0,.slice none 0 0) ?_ ?_
 ·exact⟨rfl,Ext.refl _,Nat.zero_le _,ZAA.nil _ _ _ _,rfl,rfl,rfl,trivial⟩
 rintro⟨j,v⟩ m ds h1 ⟨rfl,hE1,hj,hF1,hall⟩;simp only at hj hF1 hall;refine Wc.le ?_ (Le.kn hall);clear hall;refine zy ?_;refine ZAN rfl rfl rfl rfl (ZAY rfl rfl) (fun hjl=>?_) (fun hjl=>?_);rotate_left
 ·have:j=s.length:=by omega
  subst this;rw[List.take_length] at hF1;refine zy ?_;exact ZAE (ZAF rfl ⟨hF1,hE1⟩)
 have hj':j<s.length:=by omega
 have htk:=ZPT hj';have hln:(mrgU ltB (itmW (s.take j))).length<=200000:=Nat.le_trans (ZBZ ZAJ _) (Nat.le_trans (ZD4 _) (by rw[List.length_take];omega));obtain⟨b,o,oa,rfl,row,hrow0,hx⟩:=hR j hj';have hrow:=hE1.row hrow0;have ex:row=rowW s[j]:=hx;clear hx;generalize s[j]=x at *;subst ex;have hc4:ZAb h1 b (o+j*6+4)=some (str x.a):=ZAP (k:=4) hrow rfl;have hc3:ZAb h1 b (o+j*6+3)=some (i64 x.kind):=ZAP (k:=3) hrow rfl;refine zy ?_;refine ZAD rfl rfl rfl rfl (A_ix Und.h Tsz.h rfl rfl) ?_;refine zy ?_
 by_cases hn1:x.kind=1
 ·rw[if_pos (.inl hn1)] at htk
  refine ZAD rfl rfl rfl rfl (A_tt hn1 (ZAh rfl rfl)) ?_;refine zy ?_;refine ZAD rfl rfl rfl rfl (A_ix Und.h Tsz.h rfl rfl) ?_;refine zy ?_;refine ZAI rfl rfl rfl rfl rfl Bod.h rfl rfl (ZRw (y:=x.a) hF1 hE1 (by omega)) ?_;rintro v2 h2 ⟨hF2,hE2,-⟩;rw[<-ZHz] at hF2;refine zy ?_;exact⟨(j+1,v2),(by show s.length-(j+1)<s.length-j;omega),rfl,hE1.trans hE2,hj',(by simp only;rw[htk];exact hF2),rfl,rfl,rfl,trivial⟩
 refine ZAD rfl rfl rfl rfl (A_ff hn1 (ZAh rfl rfl)) ?_;refine zy ?_;refine ZAD rfl rfl rfl rfl (A_ix Und.h Tsz.h rfl rfl) ?_;refine zy ?_
 by_cases hn5:x.kind=5
 ·rw[if_pos (.inr hn5)] at htk
  refine ZAD rfl rfl rfl rfl (A_tt hn5 (ZAh rfl rfl)) ?_;refine zy ?_;refine ZAD rfl rfl rfl rfl (A_ix Und.h Tsz.h rfl rfl) ?_;refine zy ?_;refine ZAI rfl rfl rfl rfl rfl Bod.h rfl rfl (ZRw (y:=x.a) hF1 hE1 (by omega)) ?_;rintro v2 h2 ⟨hF2,hE2,-⟩;rw[<-ZHz] at hF2;refine zy ?_;exact⟨(j+1,v2),(by show s.length-(j+1)<s.length-j;omega),rfl,hE1.trans hE2,hj',(by simp only;rw[htk];exact hF2),rfl,rfl,rfl,trivial⟩
 rw[if_neg (not_or.2 ⟨hn1,hn5⟩),List.append_nil] at htk;refine ZAD rfl rfl rfl rfl (A_ff hn5 (ZAh rfl rfl)) ?_;refine zy ?_;exact⟨(j+1,v),(by show s.length-(j+1)<s.length-j;omega),rfl,hE1,hj',(by simp only;rw[htk];exact hF1),rfl,rfl,rfl,trivial⟩
theorem ZRk {t:Int}{k:Str}{s:List WkR}{j:Nat}(hj:j<s.length):whF t k (s.take (j+1))=ZJb t k (whF t k (s.take j)) s[j]:=by
 rw[List.take_add_one,List.getElem?_eq_getElem hj,Option.toList_some,ZMd]
theorem ZGJ {a:Option Addr}{cap:Nat}{s:List WkR}{k:Str}{t:Int}{h:Heap}(hR:ZDC h a s)(hlen:s.length<=100000) :
  Sv Tryz.prog 80 [.slice a s.length cap,str k,i64 t] h (RetP fun v h'=>v=str (whF t k s).1/\h'=h):=by
 refine ZAG Tryz.func80 rfl (by rw[Tryz.ntmps80];rfl) ?_;show Wc Tryz.prog ⟨80,60,none⟩ _ _ _ _ _;refine zy ?_;refine ZAQ (fun (j:Nat) m ds h'=>ds=[]/\h=h'/\j<=s.length/\AllK m [(0,.slice a s.length cap),(1,str k),(2,i64 t),(7,str (whF t k (s.take j)).1),(8,i64 (whF t k (s.take j)).2),(9,i64 (j:Nat))]) (fun j=>s.length-j) 0 ?_ ?_
 ·exact⟨rfl,rfl,Nat.zero_le _,rfl,rfl,rfl,rfl,rfl,rfl,trivial⟩
 rintro j m ds h1 ⟨rfl,rfl,hj,hall⟩;refine Wc.le ?_ (Le.kn hall);clear hall;refine zy ?_;refine ZAN rfl rfl rfl rfl (ZAY rfl rfl) (fun hjl=>?_) (fun hjl=>?_);rotate_left
 ·have:j=s.length:=by omega
  subst this;rw[List.take_length];refine zy ?_;exact ZAE (ZAF rfl ⟨rfl,rfl⟩)
 have hj':j<s.length:=by omega
 have htk:=ZRk (t:=t) (k:=k) hj';unfold ZJb plcB at htk;obtain⟨b,o,oa,rfl,row,hrow,hx⟩:=hR j hj';have ex:row=rowW s[j]:=hx;clear hx;generalize s[j]=x at *;generalize whF t k (s.take j)=st at *;subst ex;have hc2:ZAb h b (o+j*6+2)=some (i64 x.day):=ZAP (k:=2) hrow rfl;have hc3:ZAb h b (o+j*6+3)=some (i64 x.kind):=ZAP (k:=3) hrow rfl;have hc4:ZAb h b (o+j*6+4)=some (str x.a):=ZAP (k:=4) hrow rfl;have hc5:ZAb h b (o+j*6+5)=some (str x.b):=ZAP (k:=5) hrow rfl;refine zy ?_;refine ZAD rfl rfl rfl rfl (A_ix Und.h Tsz.h rfl rfl) ?_;refine zy ?_
 by_cases q1:x.kind=5
 rotate_left
 ·rw[if_neg (fun q=>q1 (of_decide_eq_true q.1).1)] at htk
  refine ZAD rfl rfl rfl rfl (A_ff q1 (ZAh rfl rfl)) ?_;refine zy ?_;refine⟨j+1,(by show s.length-(j+1)<s.length-j;omega),rfl,rfl,hj',rfl,rfl,rfl,?_,?_,rfl,trivial⟩ <;> rw[htk] <;> rfl
 refine ZAD rfl rfl rfl rfl (A_tt q1 (ZAh rfl rfl)) ?_;refine zy ?_;refine ZAD rfl rfl rfl rfl (A_ix Und.h Tsz.h rfl rfl) ?_;refine zy ?_
 by_cases q2:x.a=k
 rotate_left
 ·rw[if_neg (fun q=>q2 (of_decide_eq_true q.1).2.1)] at htk
  refine ZAD rfl rfl rfl rfl (A_ff q2 (ZAf rfl rfl)) ?_;refine zy ?_;refine⟨j+1,(by show s.length-(j+1)<s.length-j;omega),rfl,rfl,hj',rfl,rfl,rfl,?_,?_,rfl,trivial⟩ <;> rw[htk] <;> rfl
 refine ZAD rfl rfl rfl rfl (A_tt q2 (ZAf rfl rfl)) ?_;refine zy ?_;refine ZAD rfl rfl rfl rfl (A_ix Und.h Tsz.h rfl rfl) ?_;refine zy ?_
 by_cases q3:x.day<=t
 rotate_left
 ·rw[if_neg (fun q=>q3 (of_decide_eq_true q.1).2.2)] at htk
  refine ZAD rfl rfl rfl rfl (A_ff q3 (ZGe rfl rfl)) ?_;refine zy ?_;refine⟨j+1,(by show s.length-(j+1)<s.length-j;omega),rfl,rfl,hj',rfl,rfl,rfl,?_,?_,rfl,trivial⟩ <;> rw[htk] <;> rfl
 refine ZAD rfl rfl rfl rfl (A_tt q3 (ZGe rfl rfl)) ?_;refine zy ?_;refine ZAD rfl rfl rfl rfl (A_ix Und.h Tsz.h rfl rfl) ?_;refine zy ?_
 by_cases q4:st.2<x.day
 rotate_left
 ·rw[if_neg (fun q=>q4 q.2)] at htk
  refine ZAD rfl rfl rfl rfl (A_ff q4 (ZCb rfl rfl)) ?_;refine zy ?_;refine⟨j+1,(by show s.length-(j+1)<s.length-j;omega),rfl,rfl,hj',rfl,rfl,rfl,?_,?_,rfl,trivial⟩ <;> rw[htk] <;> rfl
 rw[if_pos ⟨decide_eq_true ⟨q1,q2,q3⟩,q4⟩] at htk;refine ZAD rfl rfl rfl rfl (A_tt q4 (ZCb rfl rfl)) ?_;refine zy ?_;refine ZAM hmix [0,0,3,7,15,0,0,96,224,480,31,2047] [0,1,2,3,4,5,6,7,8,9] (some 10) [([],(some 11)),([],none)] (by kernel_rfl) (by kernel_rfl) ?_;refine z_m ?_;refine z_m ?_;refine ZAB rfl rfl rfl rfl rfl (fun _=>A_ix (k:=j) Und.h Tsz.h rfl rfl hj') ?_;refine z_f ?_;refine z_l ?_;refine z_m ?_;refine z_m ?_;refine ZAB rfl rfl rfl rfl rfl (fun _=>A_ix (k:=j) Und.h Tsz.h rfl rfl hj') ?_;refine z_f ?_;refine z_l ?_;refine ZAK [0,1,2,3,4] (by kernel_rfl) rfl (ZAC rfl) rfl nb (kF (kF (kF (kF (kF (dF (dF (dF (dF (dF nF)))))))))) (ZDm rfl rfl (ZBG rfl) ?_)
 refine ZAK [0,1,2,3,4,5,6,7,8,9,10] (by kernel_rfl) rfl (by refine t_l 9 ?_;refine t_f 8 ?_;refine ZAn (i:=7) rfl rfl rfl rfl rfl (fun _=>A_ix (k:=j) Und.h Tsz.h rfl rfl hj') rfl ?_;refine t_m 6 ?_;refine t_m 5 ?_;exact ZAC rfl) rfl nb (dF (dF (dF (dF (dF nF))))) (ZDm rfl rfl (ZBG rfl) ?_);refine ZAT (ZAC rfl) nb' ?_;refine zy ?_;refine⟨j+1,(by show s.length-(j+1)<s.length-j;omega),rfl,rfl,hj',rfl,rfl,rfl,?_,?_,rfl,trivial⟩ <;> rw[htk] <;> rfl
theorem ZRq {x:WkR}(h:ZAw x=0):0<=x.day:=by
 unfold ZAw at h
 split at h
 ·exact absurd h (by decide)
 split at h
 ·exact absurd h (by decide)
 ·omega
theorem ZMG {ad:Option Addr}{cap:Nat}{l:List WkR}{h:Heap}{k:Str}{t:Int}(hR:ZDC h ad l)(hf:∀x∈l,x.Fit)(hlen:Len l) :
  Sv Tryz.prog 42 [.slice ad l.length cap,str k,i64 t] h (RetP fun v h'=>v=.tuple ⟨[str (ZD3 l k t).1,i64 (ZD3 l k t).2]⟩/\Ext h h'):=by
 have hcl:=ZCm (l:=l);have hcg:=ZCN (l:=l);refine ZAG Tryz.func42 rfl (by rw[Tryz.ntmps42];rfl) ?_;show Wc Tryz.prog ⟨42,35,none⟩ _ _ _ _ _;refine zy ?_;refine ZAV rfl rfl rfl rfl rfl Bod.h rfl rfl (ZE4 hR hf hlen) fun h1 hE1=>?_;refine zy ?_;refine ZAN rfl rfl rfl rfl (ZA3 rfl rfl) (fun hc=>?_) (fun hc=>?_)
 ·have hs:ZD3 l k t=([],(chkS l).2):=if_pos hc
  rw[hs];refine zy ?_;exact ZAE (ZAF rfl ⟨rfl,hE1⟩)
 have hc0:(chkS l).2=0:=Decidable.not_not.1 hc;have hs:ZD3 l k t=if k ∉ itmW (ZAe (mrgU ltW l)) then ([],4) else if t<0\/80000<t then ([],7) else (ZBR (ZAe (mrgU ltW l)) t k,0):=if_neg hc
 replace hcg:=hcg hc0;replace hcl:=hcl hc0;have hsl:(ZAe (mrgU ltW l)).length<=l.length:=ZCz l;have hwh:=ZO4 (t:=t) (k:=k) (ZGn l) fun x hx=>ZRq (hcg x (ZC0 hx));rw[hs];clear hs;refine zy ?_;refine ZAI rfl rfl rfl rfl rfl Bod.h rfl rfl (ZHE (hR.ext hE1) hf (by omega)) ?_;rintro _ h2 ⟨⟨a8,a4,rfl,hS8,-⟩,hE2⟩;generalize ZAe (mrgU ltW l)=S at *;generalize ZA1 (mrgU ltW l)=F at *;refine zy ?_;refine ZAI rfl rfl rfl rfl rfl Bod.h rfl rfl (ZE5 hS8.1 (by omega)) ?_;rintro _ h3 ⟨hF3,hE3⟩;obtain⟨a3,rfl,hl3,hL3⟩:=ZAA.list hF3;have hil:=ZD4 S;have hml:=ZBZ ZAJ (itmW S);have hmm:decide (k∈mrgU ltB (itmW S))=decide (k∈itmW S):=by simp only[ZBK ZAJ]
 have hhas:=ZSm (cap:=(mrgU ltB (itmW S)).length) (k:=k) hL3 (show _<_ by omega);rw[hmm] at hhas;have hE13:=hE1.trans (hE2.trans hE3);refine zy ?_;refine ZAR rfl rfl rfl rfl rfl Bod.h rfl rfl hhas ?_
 by_cases hk:k∈itmW S
 rotate_left
 ·rw[decide_eq_false hk,if_pos hk]
  refine zy ?_;exact ZAE (ZAF rfl ⟨rfl,hE13⟩)
 rw[decide_eq_true hk,if_neg fun q=>q hk];refine zy ?_;refine ZAR rfl rfl rfl rfl rfl Bod.h rfl rfl (ZJf t 0 80000 _) ?_
 by_cases ht:t<0\/80000<t
 ·rw[decide_eq_false (show ¬((0:Int)<=t/\t<=80000) by omega),if_pos ht]
  refine zy ?_;exact ZAE (ZAF rfl ⟨rfl,hE13⟩)
 rw[decide_eq_true (show (0:Int)<=t/\t<=80000 by omega),if_neg ht,<-hwh];refine zy ?_;refine ZAR rfl rfl rfl rfl rfl Bod.h rfl rfl (ZGJ (ZAs.ext (fun hr _=>hr) hS8.1 hE3) (by omega)) ?_;refine zy ?_;exact ZAE (ZAF rfl ⟨rfl,hE13⟩)
theorem ZSq (S:List WkR)(t:Int)(p:Str):(mrgU ltB (itmW S)).filter (fun k=>decide (ZBR S t k=p))=stkL S t p :=
 ZE0 ZAJ ((ZCc ZAJ _).filter _) fun k=>by rw[List.mem_filter,List.mem_filter,ZBK ZAJ]
set_option maxHeartbeats 4000000 in
theorem ZK8 {ad:Option Addr}{cap:Nat}{l:List WkR}{h:Heap}{p:Str}{t:Int}(hR:ZDC h ad l)(hf:∀x∈l,x.Fit)(hlen:Len l)(hp:p.length<=281474976710656) :
  Sv Tryz.prog 43 [.slice ad l.length cap,str p,i64 t] h (RetP fun v h'=>(∃v1,v=.tuple ⟨[v1,i64 (ZDN l p t).2]⟩/\ZAA h h' v1 9 1 ((ZDN l p t).1.map str) (ZDN l p t).1.length)/\Ext h h'):=by
 have hcl:=ZCm (l:=l);have hcg:=ZCN (l:=l);refine ZAG Tryz.func43 rfl (by rw[Tryz.ntmps43];rfl) ?_;show Wc Tryz.prog ⟨43,65,none⟩ _ _ _ _ _;refine zy ?_;refine ZAV rfl rfl rfl rfl rfl Bod.h rfl rfl (ZE4 hR hf hlen) fun h1 hE1=>?_;refine zy ?_
 by_cases hc0:(chkS l).2=0
 rotate_left
 ·have hs:ZDN l p t=([],(chkS l).2):=if_pos hc0
  rw[hs];generalize (chkS l).2=e at *;refine ZAD rfl rfl rfl rfl (A_ff hc0 (ZAh rfl rfl)) ?_;refine zy ?_;refine ZAD rfl rfl rfl rfl (A_ff hc0 (ZAh rfl rfl)) ?_;refine zy ?_;refine ZAD rfl rfl rfl rfl (A_tt hc0 (ZA3 rfl rfl)) ?_;refine zy ?_;exact ZAE (ZAF rfl ⟨⟨_,rfl,ZAA.nil _ _ _ _⟩,hE1⟩)
 have hs:ZDN l p t=if ZAu p=false then ([],6) else if t<0\/80000<t then ([],7) else (stkL (ZAe (mrgU ltW l)) t p,0):=if_neg fun q=>q hc0
 replace hcg:=hcg hc0;replace hcl:=hcl hc0;have hsl:(ZAe (mrgU ltW l)).length<=l.length:=ZCz l;have hwh:=fun k=>ZO4 (t:=t) (k:=k) (ZGn l) fun x hx=>ZRq (hcg x (ZC0 hx));rw[hs];clear hs;rw[hc0];refine ZAD rfl rfl rfl rfl (A_tt rfl (ZAh rfl rfl)) ?_;refine zy ?_;refine ZAR rfl rfl rfl rfl rfl Bod.h rfl rfl (ZCV p _ (by omega)) ?_;rw[<-ZFu]
 cases ZAu p with
 | false =>
  rw[if_pos rfl];refine zy ?_;refine ZAD rfl rfl rfl rfl (A_ff (by decide) (ZAh rfl rfl)) ?_;refine zy ?_;refine ZAD rfl rfl rfl rfl (A_tt (by decide) (ZA3 rfl rfl)) ?_;refine zy ?_;exact ZAE (ZAF rfl ⟨⟨_,rfl,ZAA.nil _ _ _ _⟩,hE1⟩)
 | true =>
 rw[if_neg (by decide)];refine zy ?_;refine ZAD rfl rfl rfl rfl (A_tt rfl (ZAh rfl rfl)) ?_;refine zy ?_;refine ZAR rfl rfl rfl rfl rfl Bod.h rfl rfl (ZJf t 0 80000 _) ?_
 by_cases ht:t<0\/80000<t
 ·rw[decide_eq_false (show ¬((0:Int)<=t/\t<=80000) by omega),if_pos ht]
  refine zy ?_;refine ZAD rfl rfl rfl rfl (A_tt (by decide) (ZA3 rfl rfl)) ?_;refine zy ?_;exact ZAE (ZAF rfl ⟨⟨_,rfl,ZAA.nil _ _ _ _⟩,hE1⟩)
 rw[decide_eq_true (show (0:Int)<=t/\t<=80000 by omega),if_neg ht,<-ZSq];refine zy ?_;refine ZAD rfl rfl rfl rfl (A_ff (fun q=>q rfl) (ZA3 rfl rfl)) ?_;refine zy ?_;refine ZAI rfl rfl rfl rfl rfl Bod.h rfl rfl (ZHE (hR.ext hE1) hf (by omega)) ?_;rintro _ h2 ⟨⟨a8,a4,rfl,hS8,-⟩,hE2⟩;generalize ZAe (mrgU ltW l)=S at *;generalize ZA1 (mrgU ltW l)=F at *;refine zy ?_;refine ZAI rfl rfl rfl rfl rfl Bod.h rfl rfl (ZE5 hS8.1 (by omega)) ?_;rintro _ h3 ⟨hF3,hE3⟩;obtain⟨a3,rfl,hl3,hL3⟩:=ZAA.list hF3;have hil:=ZD4 S;have hml:=ZBZ ZAJ (itmW S);have hE13:=hE1.trans (hE2.trans hE3);have hS3:=ZAs.ext (fun hr _=>hr) hS8.1 hE3
 generalize mrgU ltB (itmW S)=K at *;refine ZBQ fun hw3=>?_;clear hF3 hl3;have hS38:S.length<=100000:=by omega
 refine zy ?_;refine ZAQ (fun (st:Nat×Value) m ds h'=>ds=[]/\Ext h3 h'/\st.1<=K.length/\Own h3 h' [slI h3 st.2 9 1 (((K.take st.1).filter fun k=>decide (ZBR S t k=p)).map str) ((K.take st.1).filter fun k=>decide (ZBR S t k=p)).length]/\AllK m [(0,.slice a8 S.length S.length),(1,str p),(2,i64 t),(10,.slice a3 K.length K.length),(11,st.2),(12,i64 (st.1:Nat))]) (fun st=>K.length-st.1) (0,.slice none 0 0) ?_ ?_
 ·exact⟨rfl,Ext.refl _,Nat.zero_le _,(Own.nil h3 h3).nilSl _ _,rfl,rfl,rfl,rfl,rfl,rfl,trivial⟩
 rintro⟨j,v⟩ m ds h4 ⟨rfl,hE4,hj,hO4,hall⟩;refine Wc.le ?_ (Le.kn hall);clear hall;simp only at hj hO4 ⊢;refine zy ?_;refine ZAN rfl rfl rfl rfl (ZAY rfl rfl) (fun hjl=>?_) (fun hjl=>?_);rotate_left
 ·have:j=K.length:=by omega
  subst this;rw[List.take_length] at hO4;refine zy ?_;exact ZAE (ZAF rfl ⟨⟨_,rfl,ZAA.base (show ZAA h3 h4 v 9 1 ((K.filter fun k=>decide (ZBR S t k=p)).map str) (K.filter fun k=>decide (ZBR S t k=p)).length from hO4.p1) hE13.2.1⟩,hE13.trans hE4⟩)
 have hj':j<K.length:=by omega
 have htk:(K.take (j+1)).filter (fun k=>decide (ZBR S t k=p))=(K.take j).filter (fun k=>decide (ZBR S t k=p))++if ZBR S t K[j]=p then [K[j]] else []:=by
  rw[List.take_add_one,List.getElem?_eq_getElem hj',Option.toList_some,List.filter_append]
  congr 1
  by_cases q:ZBR S t K[j]=p
  ·rw[if_pos q,List.filter_cons_of_pos (by simpa using q)];rfl
  ·rw[if_neg q,List.filter_cons_of_neg (by simpa using q)];rfl
 have hln:((K.take j).filter fun k=>decide (ZBR S t k=p)).length<=100000:=Nat.le_trans (List.length_filter_le _ _) (by rw[List.length_take];omega);obtain⟨bK,oK,oaK,rfl,hcK0⟩:=hL3 j hj';have hcK:=hE4.cell hcK0;generalize K[j]=k at *;have hwk:=ZGJ (cap:=S.length) (k:=k) (t:=t) (ZAs.ext (fun hr _=>hr) hS3 hE4) hS38;rw[hwh] at hwk;refine zy ?_;refine ZAD rfl rfl rfl rfl (A_ix Und.h Tsz.h rfl rfl) ?_;refine zy ?_;refine ZAR rfl rfl rfl rfl rfl Bod.h rfl rfl hwk ?_;refine zy ?_
 by_cases q:ZBR S t k=p
 rotate_left
 ·rw[if_neg q,List.append_nil] at htk
  refine ZAD rfl rfl rfl rfl (A_ff q (ZAf rfl rfl)) ?_;refine zy ?_;refine⟨(j+1,v),(by show K.length-(j+1)<K.length-j;omega),rfl,hE4,hj',?_,rfl,rfl,rfl,rfl,rfl,rfl,trivial⟩;simp only;rw[htk];exact hO4
 rw[if_pos q] at htk;refine ZAD rfl rfl rfl rfl (A_tt q (ZAf rfl rfl)) ?_;refine zy ?_;refine ZAD rfl rfl rfl rfl (A_ix Und.h Tsz.h rfl rfl) ?_;refine zy ?_;refine ZBm rfl rfl Und.h Tsz.h Zr.h rfl rfl rfl rfl rfl fun h5 hE5 hW5 hg5 hn5=>?_;refine zy ?_;refine ZA6 (k:=1) (l:=[str k]) hw3 (hE4.trans hE5) rfl rfl rfl rfl rfl Und.h inferInstance rfl rfl (hO4.ext hE5) (ZBA Und.h (by intro k;simp) (ZAZ hg5 rfl)) rfl rfl (by omega) (by omega) fun v6 h6 hW6 hO6 hE6=>?_;refine zy ?_;refine⟨(j+1,v6),(by show K.length-(j+1)<K.length-j;omega),rfl,hE6,hj',?_,rfl,rfl,rfl,rfl,rfl,rfl,trivial⟩;simp only;rw[htk,List.map_append,List.length_append]
 exact hO6
end Go.Dw
namespace Go.Dw
open Go Go.Dx Go.Proofs Go.Sort Go.RowKit Go.Lib
set_option maxRecDepth 100000
def ZJk:Go.Shelf.Ren:=⟨fun|6=>82|15=>113|14=>130|28=>169|29=>170|20=>181|21=>182|22=>183|23=>184|24=>185|25=>186|26=>187|27=>188|46=>254|47=>241|48=>242|49=>255|50=>256|57=>300|n=>n,fun|22=>68|24=>82|25=>166|3=>3|39=>210|0=>0|53=>254|55=>256|4=>4|46=>248|45=>247|50=>146|5=>5|9=>9|66=>321|70=>325|76=>361|77=>362|n=>n,fun|n=>n⟩
theorem ZMa:Go.Proofs.SlLaysF0.n6 Tryz.prog ZJk:={
 mixed:=by kernel_rfl
 f6:=⟨Tryz.f82.name,by decide,Tryz.func82.trans (congrArg some (by kernel_rfl))⟩
 f14:=⟨Tryz.f130.name,by decide,Tryz.func130.trans (congrArg some (by kernel_rfl))⟩
 f15:=Tryz.func113.trans (congrArg some (by kernel_rfl))
 f20:=⟨Tryz.f181.name,by decide,Tryz.func181.trans (congrArg some (by kernel_rfl))⟩
 f21:=⟨Tryz.f182.name,by decide,Tryz.func182.trans (congrArg some (by kernel_rfl))⟩
 f22:=⟨Tryz.f183.name,by decide,Tryz.func183.trans (congrArg some (by kernel_rfl))⟩
 f23:=⟨Tryz.f184.name,by decide,Tryz.func184.trans (congrArg some (by kernel_rfl))⟩
 f24:=⟨Tryz.f185.name,by decide,Tryz.func185.trans (congrArg some (by kernel_rfl))⟩
 f25:=⟨Tryz.f186.name,by decide,Tryz.func186.trans (congrArg some (by kernel_rfl))⟩
 f26:=⟨Tryz.f187.name,by decide,Tryz.func187.trans (congrArg some (by kernel_rfl))⟩
 f27:=⟨Tryz.f188.name,by decide,Tryz.func188.trans (congrArg some (by kernel_rfl))⟩
 f28:=Tryz.func169.trans (congrArg some (by kernel_rfl))
 f29:=Tryz.func170.trans (congrArg some (by kernel_rfl))
 f46:=⟨Tryz.f254.name,by decide,Tryz.func254.trans (congrArg some (by kernel_rfl))⟩
 f47:=Tryz.func241.trans (congrArg some (by kernel_rfl))
 f48:=Tryz.func242.trans (congrArg some (by kernel_rfl))
 f49:=⟨Tryz.f255.name,by decide,Tryz.func255.trans (congrArg some (by kernel_rfl))⟩
 f50:=⟨Tryz.f256.name,by decide,Tryz.func256.trans (congrArg some (by kernel_rfl))⟩
 f57:=⟨Tryz.f300.name,by decide,Tryz.func300.trans (congrArg some (by kernel_rfl))⟩
 t0:=Tryz.underlying0
 a0:=Tryz.isAgg0
 z0:=Tryz.sizeOf0
 v0:=Tryz.zeroValue0
 t3:=Tryz.underlying3
 a3:=Tryz.isAgg3
 z3:=Tryz.sizeOf3
 v3:=Tryz.zeroValue3
 t4:=Tryz.underlying4
 a4:=Tryz.isAgg4
 z4:=Tryz.sizeOf4
 v4:=Tryz.zeroValue4
 t5:=Tryz.underlying5
 a5:=Tryz.isAgg5
 z5:=Tryz.sizeOf5
 v5:=Tryz.zeroValue5
 t9:=Tryz.underlying9
 a9:=Tryz.isAgg9
 z9:=Tryz.sizeOf9
 v9:=Tryz.zeroValue9
 t22:=Tryz.underlying68
 a22:=Tryz.isAgg68
 z22:=Tryz.sizeOf68
 v22:=Tryz.zeroValue68
 t25:=Tryz.underlying166
 a25:=Tryz.isAgg166
 z25:=Tryz.sizeOf166
 v25:=Tryz.zeroValue166
 t39:=Tryz.underlying210
 a39:=Tryz.isAgg210
 z39:=Tryz.sizeOf210
 v39:=Tryz.zeroValue210
 t45:=Tryz.underlying247
 a45:=Tryz.isAgg247
 z45:=Tryz.sizeOf247
 v45:=Tryz.zeroValue247
 t46:=Tryz.underlying248
 a46:=Tryz.isAgg248
 z46:=Tryz.sizeOf248
 v46:=Tryz.zeroValue248
 t50:=Tryz.underlying146
 a50:=Tryz.isAgg146
 z50:=Tryz.sizeOf146
 v50:=Tryz.zeroValue146
 t53:=Tryz.underlying254
 a53:=Tryz.isAgg254
 z53:=Tryz.sizeOf254
 v53:=Tryz.zeroValue254
 t55:=Tryz.underlying256
 a55:=Tryz.isAgg256
 z55:=Tryz.sizeOf256
 v55:=Tryz.zeroValue256
 t66:=Tryz.underlying321
 a66:=Tryz.isAgg321
 z66:=Tryz.sizeOf321
 v66:=Tryz.zeroValue321
 t70:=Tryz.underlying325
 a70:=Tryz.isAgg325
 z70:=Tryz.sizeOf325
 v70:=Tryz.zeroValue325
 t76:=Tryz.underlying361
 a76:=Tryz.isAgg361
 z76:=Tryz.sizeOf361
 v76:=Tryz.zeroValue361
 t77:=Tryz.underlying362
 a77:=Tryz.isAgg362
 z77:=Tryz.sizeOf362
 v77:=Tryz.zeroValue362 }
abbrev rowT (z:Twc):List Value:=[str z.1,i64 z.2.1,str z.2.2.1.1,i64 z.2.2.1.2,str z.2.2.2.1,i64 z.2.2.2.2]
noncomputable instance:DecidableRel ltTw:=fun _ _=>Classical.propDecidable _
def cmpT (x y:Twc):Int:=ZBg [cmpI ltB x.1 y.1,x.2.1-y.2.1]
theorem ZMR {x y:Twc}:cmpT x y<0 ↔ ltB x.1 y.1\/(x.1=y.1/\x.2.1<y.2.1):=by
 unfold cmpT;simp only[ZBg]
 by_cases h:cmpI ltB x.1 y.1=0
 ·have e:=(ZJ0 ZAJ).1 h
  rw[if_neg (fun q=>q h)]
  constructor
  ·intro q
   refine .inr ⟨e,?_⟩
   split at q <;> omega
  ·rintro (q|⟨-,q⟩)
   ·rw[e] at q;exact absurd q (ZAJ.irr _)
   ·rw[if_pos (by omega)];omega
 ·rw[if_pos h]
  constructor
  ·exact fun q=>.inl (ZGI.1 q)
  ·rintro (q|⟨q,-⟩)
   ·exact ZGI.2 q
   ·exact absurd ((ZJ0 ZAJ).2 q) h
set_option maxHeartbeats 1000000 in
theorem ZRh (x y:Twc)(hx:0<=x.2.1/\x.2.1<=80000)(hy:0<=y.2.1/\y.2.1<=80000)(h:Heap):Sv Tryz.prog 83 [.agg ⟨rowT x⟩,.agg ⟨rowT y⟩] h (RetP fun v h'=>v=i64 (cmpT x y)/\Ext h h'):=by
 refine ZAG Tryz.func83 rfl (by rw[Tryz.ntmps83];rfl) ?_;show Wc Tryz.prog ⟨83,17,none⟩ _ _ _ _ _;refine zy ?_;refine ZBO rfl rfl rfl fun h1 hE1 hW1 hg1 hn1=>?_;refine zy ?_;refine ZBO rfl rfl rfl fun h2 hE2 hW2 hg2 hn2=>?_;have k1:=hE2.get hg1;obtain⟨z1,e1⟩:∃z,z=cmpI ltB x.1 y.1:=⟨_,rfl⟩;have c1:=ZDx x.1 y.1 h2;rw[<-e1] at c1;refine zy ?_;refine ZAM hmix [0,1,0,4,15,0,32,0,128,480,1023,2047,4095] [0,1,2,3,5,6,7,8,9] (some 4) [([10],(some 11)),([],(some 12)),([],none)] (by kernel_rfl) (by kernel_rfl) ?_;refine z_f ?_;refine z_l ?_;refine z_f ?_;refine z_l ?_;refine z_f ?_;refine z_l ?_;refine z_f ?_;refine z_l ?_;refine z_u ?_
 refine ZAK [0,1,2,3] (by kernel_rfl) rfl (ZAC rfl) rfl nb (kF (kF (kF (kF (kF (dF (dF (dF (dF nF))))))))) (ZAj rfl rfl rfl rfl rfl Bod.h c1 ?_);refine ZC5 (nk:=.sl _ _) rfl rfl rfl rfl rfl (fun _ _ hs=>N_bs hs Und.h Tsz.h Zr.h rfl rfl rfl rfl rfl) ?_;refine ZAK (h1:=(Heap.add h2 _)) [0,1,2,3,4,5,6,7,8,9,10] (by kernel_rfl) rfl (by refine t_u 9 ?_;refine t_l 8 ?_;refine t_f 7 ?_;refine t_l 6 ?_;refine t_f 5 ?_;exact ZAC rfl) rfl rfl (dF (dF (dF (dF (dF (dF nF)))))) (ZAj rfl rfl rfl rfl rfl Bod.h (ZM1 (l:=[z1,x.2.1-y.2.1]) (ZMk rfl) (by simp)) ?_);refine ZAK (h1:=(Heap.add h2 _)) [0,1,2,3,4,5,6,7,8,9,10,11] (by kernel_rfl) rfl (ZAC rfl) rfl rfl nF (ZDm rfl rfl (ZBG rfl) ?_)
 refine ZAT (h1:=(Heap.add h2 _)) (ZAC rfl) rfl ?_;refine zy ?_;exact ZAE (ZAF rfl ⟨by unfold cmpT;rw[<-e1];rfl,(hE1.trans hE2).trans (Ext.add hW2 _)⟩)
theorem ZDK (l:List Twc):(l.flatMap rowT).length=l.length*6:=ZAr (enc:=rowT) (k:=6) (fun _=>rfl) l
theorem ZFk:∀l:List Twc,ZBY (l.flatMap rowT)=true
 | []=>rfl
 | x::l=>by
  rw[List.flatMap_cons]
  show ZBY (str x.1::i64 x.2.1::str x.2.2.1.1::i64 x.2.2.1.2::str x.2.2.2.1::i64 x.2.2.2.2::l.flatMap rowT)=true
  simp only[ZBY,flat,Bool.true_and];exact ZFk l
theorem swoT {L:List Twc}:SWO (ltOf fun x y:{z // z∈L}=>cmpT x.1 y.1):=by
 have e:∀x y:{z // z∈L},ltOf (fun x y:{z // z∈L}=>cmpT x.1 y.1) x y=true ↔ ltB x.1.1 y.1.1\/(x.1.1=y.1.1/\x.1.2.1<y.1.2.1):=fun x y=>by
  unfold ltOf;rw[decide_eq_true_iff,ZMR]
 have e':∀x y:{z // z∈L},ltOf (fun x y:{z // z∈L}=>cmpT x.1 y.1) x y=false ↔ ¬(ltB x.1.1 y.1.1\/(x.1.1=y.1.1/\x.1.2.1<y.1.2.1)):=fun x y=>by
  rw[<-e,Bool.not_eq_true]
 have hS:=ZAz ZAJ ZBD;refine⟨fun x=>?_,fun x y z h1 h2=>?_,fun x y z h1 h2=>?_⟩
 ·rw[e'];exact hS.irr (x.1.1,x.1.2.1)
 ·rw[e] at h1 h2 ⊢
  exact hS.tr (a:=(x.1.1,x.1.2.1)) (b:=(y.1.1,y.1.2.1)) (c:=(z.1.1,z.1.2.1)) h1 h2
 ·rw[e'] at h1 h2 ⊢
  intro h
  rcases hS.tri (x.1.1,x.1.2.1) (y.1.1,y.1.2.1) with g|g|g
  ·exact h1 g
  ·obtain⟨g1,g2⟩:=Prod.mk.inj g
   rw[g1,g2] at h;exact h2 h
  ·exact h2 (hS.tr (a:=(y.1.1,y.1.2.1)) (b:=(x.1.1,x.1.2.1)) (c:=(z.1.1,z.1.2.1)) g h)
theorem ZOZ {h0 h:Heap}{v:Value}{L T:List Twc}(hF:ZAA h0 h v 82 6 (L.flatMap rowT) L.length)(hn:L.length<1000000)(hT:T.Pairwise ltTw)(hm:∀e,e∈T ↔ e∈L)(hLn:L.Nodup)(hd:∀z∈L,0<=z.2.1/\z.2.1<=80000)(ht:∀x∈L,∀y∈L,x.1=y.1->x.2.1=y.2.1->x=y)(hv0:L=[]->v=.slice none 0 0) :
  Sv Tryz.prog 82 [v,.func (.func 83) ⟨[]⟩ ⟨[]⟩] h (RetP fun r h'=>r=.tuple ⟨[]⟩/\ZAA h0 h' v 82 6 (T.flatMap rowT) L.length/\Exb (fun c=>ZBC v=some c) h h'):=by
 refine⟨fun ι w args' hr hv=>?_⟩;obtain⟨l',rfl,hv⟩:=hv.arr
 cases hv with
 | cons hv1 hv2 =>
  cases hv2 with
  | cons hv3 hv4 =>
   cases hv4;have e3:=hv3.flat_eq rfl;subst e3
   rcases hF.lies hr hv1 (by decide) with ⟨rfl,rfl,hz,hn0⟩|⟨b,bi,op,cap,c,hb,hg,hi,rfl,hc,hle,hV,hl,hnew⟩
   ·have:L=[]:=List.eq_nil_of_length_eq_zero hn0
    subst this;have:T=[]:=List.eq_nil_iff_forall_not_mem.2 fun e he=>absurd ((hm e).1 he) List.not_mem_nil;subst this;refine (AnyF.slices_SortFunc_none ZMa none 0 _ w).mono ?_;rintro e w' ⟨rfl,rfl⟩;exact⟨.ret (.tuple ⟨[]⟩) h,⟨rfl,ZAA.nil _ _ _ _,Exb.refl _ _⟩,ZDM hr (VR.of_flat ι rfl) ⟨⟨Nat.le_refl _,fun _ _=>rfl,rfl,rfl⟩,rfl,Nat.le_refl _⟩⟩
   ·rcases Nat.eq_zero_or_pos L.length with h00|h00
    ·rw[hv0 (List.eq_nil_of_length_eq_zero h00)] at hb
     cases hb
    haveI:Inhabited {z // z∈L}:=⟨⟨L[0],List.getElem_mem h00⟩⟩
    have hfm:L.attach.flatMap (fun z=>rowT z.1)=L.flatMap rowT:=by
     conv=>rhs;rw[<-List.attach_map_subtype_val L]
     rw[List.flatMap_map]
    have hal:L.attach.length=L.length:=List.length_attach;have hcz:=hV.flat_eq (ZFk L);rw[ZDK] at hle hcz;have hfl:(flatK (fun z:{z // z∈L}=>rowT z.1) 6 L.attach.toArray).toList=c.toList.take (L.length*6):=by rw[ZEX (enc:=fun z:{z // z∈L}=>rowT z.1) (k:=6) (by decide) (fun _=>rfl),hcz];exact hfm
    have hH:HoldsK (fun z:{z // z∈L}=>rowT z.1) 6 w bi.blk 0 L.attach.toArray:=ZGo (enc:=id) hc (by rw[size_flatK,List.size_toArray,hal,hfl,List.map_id]);obtain⟨hbs,-⟩:=Array.getElem?_eq_some_iff.1 hc
    have hK:=AnyQ.slices_SortFunc_total ZMa 6 Tryz.isAgg82 Tryz.sizeOf82 (fun z:{z // z∈L}=>rowT z.1) (fun _=>rfl) (fun x v hv=>by
     simp only[rowT,List.mem_cons,List.not_mem_nil,or_false] at hv
     rcases hv with rfl|rfl|rfl|rfl|rfl|rfl <;> rfl) (fun x y=>cmpT x.1 y.1) swoT 83 #[] bi.blk 0 cap L.attach.toArray w (enters_of Tryz.func83 (by kernel_rfl) rfl) (fun _ _ _ _ x y=>ZFl (args:=[.agg ⟨rowT x.1⟩,.agg ⟨rowT y.1⟩]) rfl rfl (fun h=>ZRh x.1 y.1 (hd _ x.2) (hd _ y.2) h) _) hH hbs (by simp;omega) (fun x y h1 h2=>by
      unfold ltOf at h1 h2;rw[decide_eq_false_iff_not,ZMR] at h1 h2;refine Subtype.ext (ht _ x.2 _ y.2 ?_ ?_)
      ·rcases ZAJ.tri x.1.1 y.1.1 with g|g|g
       ·exact absurd (.inl g) h1
       ·exact g
       ·exact absurd (.inl g) h2
      ·rcases ZAJ.tri x.1.1 y.1.1 with g|g|g
       ·exact absurd (.inl g) h1
       ·rcases Int.lt_trichotomy x.1.2.1 y.1.2.1 with q|q|q
        ·exact absurd (.inr ⟨g,q⟩) h1
        ·exact q
        ·exact absurd (.inr ⟨g.symm,q⟩) h2
       ·exact absurd (.inl g) h2)
    rw[List.size_toArray,hal] at hK;refine hK.mono ?_;rintro e w' ⟨rfl,k,os,rfl⟩;have hswo:=swoT (L:=L);have hperm:=List.mergeSort_perm L.attach (fun x y=>!(ltOf fun x y:{z // z∈L}=>cmpT x.1 y.1) y x)
    have hsort:=List.pairwise_mergeSort (le:=fun x y=>!(ltOf fun x y:{z // z∈L}=>cmpT x.1 y.1) y x) (fun a b c h1 h2=>by
     rw[Bool.not_eq_true'] at h1 h2 ⊢;exact hswo.ntrans _ _ _ h2 h1) (fun a b=>by
     rw[Bool.or_eq_true,Bool.not_eq_true',Bool.not_eq_true']
     cases hq:(ltOf fun x y:{z // z∈L}=>cmpT x.1 y.1) b a with
     | false=>exact .inl rfl
     | true =>
      refine .inr ?_
      cases hq2:(ltOf fun x y:{z // z∈L}=>cmpT x.1 y.1) a b with
      | false=>rfl
      | true=>have:=hswo.trans _ _ _ hq hq2;rw[hswo.irrefl] at this;cases this) L.attach
    have eT:L.attach.toArray.toList=L.attach:=rfl;rw[eT];generalize (L.attach.mergeSort fun x y=>!(ltOf fun x y:{z // z∈L}=>cmpT x.1 y.1) y x)=R' at *;have hpm:(R'.map Subtype.val).Perm L:=by
     have:=hperm.map Subtype.val
     rwa [List.attach_map_subtype_val] at this
    have hRn:(R'.map Subtype.val).Nodup:=hpm.symm.nodup hLn;have hRT:R'.map Subtype.val=T:=by
     refine ZOh ZDY ?_ hT fun e=>by rw[hpm.mem_iff,hm]
     refine List.pairwise_map.2 ((hsort.and (List.pairwise_map.1 hRn)).imp fun {a b} ⟨h1,h2⟩=>?_);rw[Bool.not_eq_true'] at h1;unfold ltOf at h1;rw[decide_eq_false_iff_not,ZMR] at h1
     rcases ZAJ.tri a.1.1 b.1.1 with g|g|g
     ·exact .inl g
     ·rcases Int.lt_trichotomy a.1.2.1 b.1.2.1 with q|q|q
      ·exact .inr ⟨g,.inl q⟩
      ·exact absurd (ht _ a.2 _ b.2 g q) h2
      ·exact absurd (.inr ⟨g.symm,q⟩) h1
     ·exact absurd (.inl g) h1
    have hsl:R'.length=L.length:=by have:=hpm.length_eq;rwa [List.length_map] at this
    have hRf:R'.flatMap (fun z:{z // z∈L}=>rowT z.1)=T.flatMap rowT:=by rw[<-hRT,List.flatMap_map]
    have hTl:T.length=L.length:=by rw[<-hRT,List.length_map,hsl]
    have hfs:(flatK (fun z:{z // z∈L}=>rowT z.1) 6 R'.toArray).size=L.length*6:=by rw[size_flatK,List.size_toArray,hsl]
    have hfR:(flatK (fun z:{z // z∈L}=>rowT z.1) 6 R'.toArray).toList=T.flatMap rowT:=by rw[ZEX (enc:=fun z:{z // z∈L}=>rowT z.1) (k:=6) (by decide) (fun _=>rfl)];exact hRf
    have hP:=ZHY (h:=h) (vs2:=T.flatMap rowT) (c2:=putCells id 0 (flatK (fun z:{z // z∈L}=>rowT z.1) 6 R'.toArray) c) (r:=.tuple ⟨[]⟩) (r':=.tuple ⟨[]⟩) hr hg hi hc ZDh (by rw[ZDK,ZDK,hTl]) (by
     have:=ZDg (enc:=id) (d:=flatK (fun z:{z // z∈L}=>rowT z.1) 6 R'.toArray) (c:=c) (by rw[hfs];exact hle);rw[hfs,List.map_id,hfR] at this;rw[ZDK,hTl,this];exact VRL.of_flat ι (ZFk _)) (VR.of_flat ι rfl) (ZF0 (enc:=id) (d:=flatK (fun z:{z // z∈L}=>rowT z.1) 6 R'.toArray) (n:=k) (os:=os) hc).1 (ZF0 hc).2 rfl rfl
    refine⟨.ret (.tuple ⟨[]⟩) (h.set b (.cells (T.flatMap rowT) 82 op)),⟨rfl,hnew _ _ op (by rw[ZDK,ZDK,hTl]) (Upd.mk' h b _).at',?_⟩,hP⟩;refine (Exb.ofUpd (Upd.mk' h b _)).mono fun x hx=>by rw[hx];exact hb
end Go.Dw
namespace Go.Dw
open Go Go.Dx Go.Proofs
set_option maxRecDepth 100000
def ZDQ (l:List WkR):List Twc×Int:=if (chkS l).2≠0 then ([],(chkS l).2) else (twcS (ZAe (mrgU ltW l)),0)
theorem ZLy {s:List WkR}(hup:s.Pairwise ltW)(hs:s.length<=200){V:List Str}(hV:V.length<=200):(twL s V).length<=40000:=by
 have:=ZO1 (f:=fun k=>twO k (ZBB s 80000 k)) (B:=200) (L:=V) fun k _=>by
  have h1:=ZI9 k (ZBB s 80000 k) (ZBB s 80000 k).length;have h2:=ZD2 hup 80000 k;have h3:=ZEa s 80000 k
  show (twF k _ _).2.2.length<=200
  omega
 have h4:V.length*200<=200*200:=Nat.mul_le_mul_right _ hV
 show (V.flatMap _).length<=_
 omega
theorem ZQS (s:List WkR)(V:List Str)(k:Str):twL s (k::V).reverse=twL s V.reverse++twO k (ZBB s 80000 k):=by
 unfold twL;rw[List.reverse_cons,List.flatMap_append,List.flatMap_cons,List.flatMap_nil,List.append_nil]
theorem ZTS (x0 x1 x2 x3 x4 x5:Value):Instr.fill (fun i=>some (i*6,6)) (rep 1 (Value.cells (.agg ⟨[str [],i64 0,str [],i64 0,str [],i64 0]⟩)).toList).toArray [(0,.agg ⟨[x0,x1,x2,x3,x4,x5]⟩)]=some ⟨[x0,x1,x2,x3,x4,x5]⟩:=by kernel_rfl
set_option maxHeartbeats 1000000 in
theorem ZQw {a:Option Addr}{cap:Nat}{l:List WkR}{h:Heap}(hR:SrcK rowW 6 h a l)(hn:a=none->l=[]/\cap=0)(hf:∀x∈l,x.Fit)(hlen:Len l)(hL:WkLib h) :
  Sv Tryz.prog 44 [.slice a l.length cap] h (RetP fun v h'=>(∃v1,v=.tuple ⟨[v1,i64 (ZDQ l).2]⟩/\ZAA h h' v1 82 6 ((ZDQ l).1.flatMap rowT) (ZDQ l).1.length)/\Ext h h'):=by
 have hop:=ZFn hR hn hf hlen hL;unfold ZJ4 at hop;have hcl:=ZCm (l:=l);have hcg:=ZCN (l:=l);unfold ZDQ;generalize chkS l=ck at *;refine ZAG Tryz.func44 rfl (by rw[Tryz.ntmps44];rfl) ?_;show Wc Tryz.prog ⟨44,75,none⟩ _ _ _ _ _;refine zy ?_;refine ZAI rfl rfl rfl rfl rfl Bod.h rfl rfl hop ?_;rintro _ h1 ⟨⟨hc,rfl⟩|⟨hc,aS,af,rfl,hS,-⟩,hE1⟩
 ·refine zy ?_
  refine ZAD rfl rfl rfl rfl (A_tt hc (ZA3 rfl rfl)) ?_;refine zy ?_;rw[if_pos hc];exact ZAE (ZAF rfl ⟨⟨_,rfl,.nil _ _ _ _⟩,hE1⟩)
 rw[if_neg (fun q=>q hc)];have hl2:=hcl hc;replace hcg:=hcg hc;have hup:=ZP4 l;have hsl:(ZAe (mrgU ltW l)).length<=200:=Nat.le_trans (ZCz l) hl2;have hsd:∀x∈ZAe (mrgU ltW l),0<=x.day/\x.day<=80000:=fun x hx=>ZL9 (hcg x (ZC0 hx));clear hcl hcg hop;generalize ZAe (mrgU ltW l)=S at *;generalize ZA1 (mrgU ltW l)=F at *;refine zy ?_;refine ZAD rfl rfl rfl rfl (A_ff (fun q=>q rfl) (ZA3 rfl rfl)) ?_;refine zy ?_;refine ZBQ fun hw=>?_;refine ZAI rfl rfl rfl rfl rfl Bod.h rfl rfl (ZJH (t:=80000) hS hup hsl hsd) ?_;rintro _ h3 ⟨hE3,bm,rfl,G,hO,hon,hlk⟩;refine zy ?_;refine ZBk strK hE3 rfl rfl Und.h rfl hO fun h4 hW4 hO4 hE34=>?_
 have hE4:=hE3.trans hE34;generalize h3.nx=rr at hO4 ⊢;have hO4':=(hO4.nilSl 82 6).up2;clear hO4 hO hE3 hE34;refine zy ?_;refine ZAQ (fun (st:Value×List Str) m ds h'=>ds=[]/\Ext h1 h'/\Own h1 h' (itI strK bm rr (kvG G) st.2::slI h1 st.1 82 6 ((twL S st.2.reverse).flatMap rowT) (twL S st.2.reverse).length::slG rowW 44 6 h1 G)/\(twL S st.2.reverse=[]->st.1=.slice none 0 0)/\st.2.Nodup/\(∀k∈st.2,k∈itmW S)/\AllK m [(2,st.1),(23,.pointer (some ⟨rr,0,none⟩))]) (fun st=>(itmW S).length-st.2.length) (.slice none 0 0,[]) ?_ ?_
 ·exact⟨rfl,hE4,hO4',fun _=>rfl,.nil,(fun _ h=>nomatch h),rfl,rfl,trivial⟩
 clear hO4' hE4 hW4;rintro⟨vs,V⟩ m ds h5 ⟨rfl,hE5,hO5,hv0,hVn,hV2,hall⟩;refine Wc.le ?_ (Le.kn hall);clear hall;simp only at hO5 hVn hV2 hv0 ⊢;have hil:=ZD4 S;have hVl:=ZA2 hVn hV2;have hfl:=ZLy hup hsl (V:=V.reverse) (by rw[List.length_reverse];omega);refine zy ?_;refine ZB4 strK hw hE5 rfl rfl rfl hon hO5 (fun hdone=>?_) fun k v h6 hlkv hnk hC hO6 hE6=>?_
 ·have hVm:∀k,k∈V.reverse ↔ k∈itmW S:=fun k=>by
   rw[List.mem_reverse]
   exact⟨hV2 k,fun hk=>by
    have h1:=hlk k;rw[if_pos hk] at h1
    cases hl:ZBM k G with
    | none=>rw[hl] at h1;cases h1
    | some q=>exact hdone k q.1 (by rw[ZCK,hl];rfl)⟩
  have hOt:=hO5.tail;have htn:(twL S V.reverse).Nodup:=ZTr ((List.reverse_perm V).symm.nodup hVn);have htl:(twcS S).length=(twL S V.reverse).length:=by
   have h1:(twcS S).Nodup:=(ZR0 S).imp fun {a b} hab e=>by rw[e] at hab;exact ZDY.irr _ hab
   exact Nat.le_antisymm (ZA2 h1 fun e he=>(ZOb hVm e).1 he) (ZA2 htn fun e he=>(ZOb hVm e).2 he)
  refine zy ?_;refine ZBQ fun hW5=>?_;refine ZAI rfl rfl rfl rfl rfl Bod.h rfl rfl (ZOZ (T:=twcS S) (show ZAA h1 h5 vs 82 6 _ _ from hOt.p1) (by omega) (ZR0 S) (ZOb hVm) htn (ZSH hsd) ZTX hv0) ?_;rintro _ h7 ⟨rfl,hF7,hX7⟩;rw[<-htl] at hF7;have hE7:=hOt.grows hX7 hE5 hw;refine zy ?_;exact ZAE (ZAF rfl ⟨⟨vs,rfl,hF7.base hE1.2.1⟩,hE1.trans hE7⟩)
 have hkG:ZBM k G=some (v,ZBB S 80000 k)/\k∈itmW S:=by
  rw[ZCK] at hlkv;have h1:=hlk k
  cases hl:ZBM k G with
  | none=>rw[hl] at hlkv;cases hlkv
  | some q =>
   rw[hl] at hlkv h1
   by_cases hk:k∈itmW S
   ·rw[if_pos hk] at h1
    obtain⟨q1,q2⟩:=q;simp only[Option.map_some,Option.some.injEq] at hlkv h1;rw[hlkv,h1];exact⟨rfl,hk⟩
   ·rw[if_neg hk] at h1;cases h1
 obtain⟨hlG,hki⟩:=hkG;have hlt:V.length+1<=(itmW S).length:=by
  have:=ZA2 (List.nodup_cons.2 ⟨hnk,hVn⟩) (m:=itmW S) fun k' hk'=>by
   rcases List.mem_cons.1 hk' with rfl|hk'
   ·exact hki
   ·exact hV2 k' hk'
  simpa using this
 have hV3:∀k'∈k::V,k'∈itmW S:=fun k' hk'=>by
  rcases List.mem_cons.1 hk' with rfl|hk'
  ·exact hki
  ·exact hV2 k' hk'
 obtain⟨av,ev,hSv,hnv⟩:=ZAA.rowsAt (enc:=rowW) (k:=6) (fun _=>rfl) (show ZAA h1 h6 v 44 6 _ _ from hO6.tail.tail.has _ (ZF9 rowW 44 6 (h0:=h1) hlG)) rfl;subst ev;have hspl:(ZBB S 80000 k).length<=200:=by
  have h1:=ZD2 hup 80000 k;have h2:=ZEa S 80000 k;omega
 have hsn:=ZQS S V k;have hinv:=fun i hi=>ZLT (k:=k) (ZNE (s:=S) (t:=80000) (k:=k)) i hi;have hfn:=fun i=>ZI9 k (ZBB S 80000 k) i;unfold twO at hsn;have hmem:=ZF9 rowW 44 6 (h0:=h1) hlG;clear hlkv hlk hlG;generalize ZBB S 80000 k=sp at *
 have hrw:∀(h':Heap) (I:List It),slI h1 (.slice av sp.length sp.length) 44 6 (sp.flatMap rowW) sp.length∈I->Own h1 h' I->ZAs 6 (fun _ row x=>row=rowW x) h' av sp:=fun h' I hI hO=>by
  obtain⟨a',e',hS',-⟩:=ZAA.rowsAt (enc:=rowW) (k:=6) (fun _=>rfl) (show ZAA h1 h' (.slice av sp.length sp.length) 44 6 (sp.flatMap rowW) sp.length from hO.has _ hI) rfl;cases e';exact hS'.1
 clear hSv hnv;generalize twL S V.reverse=B at *;refine zy ?_;refine ZDA strK rfl rfl rfl hC ?_;refine zy ?_;refine ZAQ (fun (st:Nat×Value) m ds h'=>ds=[]/\Ext h1 h'/\st.1<=sp.length/\Own h1 h' (itI strK bm rr (kvG G) (k::V)::slI h1 st.2 82 6 ((B++(twF k sp st.1).2.2).flatMap rowT) (B++(twF k sp st.1).2.2).length::slG rowW 44 6 h1 G)/\(B++(twF k sp st.1).2.2=[]->st.2=.slice none 0 0)/\AllK m [(2,st.2),(6,str k),(7,.slice av sp.length sp.length),(8,i64 ((twF k sp st.1).1:Nat)),(9,.bool (twF k sp st.1).2.1),(23,.pointer (some ⟨rr,0,none⟩)),(29,.slice av sp.length sp.length),(30,i64 sp.length),(31,i64 (st.1:Nat))]) (fun st=>sp.length-st.1) (0,vs) ?_ ?_
 ·refine⟨rfl,hE6,Nat.zero_le _,?_,?_,rfl,rfl,rfl,rfl,rfl,rfl,rfl,rfl,rfl,trivial⟩
  ·simp only[twF,List.append_nil];exact hO6
  ·simp only[twF,List.append_nil];exact hv0
 rintro⟨i,va⟩ m ds h7 ⟨rfl,hE7,hi,hO7,hz7,hall⟩;refine Wc.le ?_ (Le.kn hall);clear hall;simp only at hi hO7 hz7 ⊢;refine zy ?_;refine ZAN rfl rfl rfl rfl (ZAY rfl rfl) (fun hil=>?_) (fun hil=>?_);rotate_left
 ·have:i=sp.length:=by omega
  subst this;rw[<-hsn] at hO7 hz7;refine zy ?_;exact⟨(va,k::V),(by show (itmW S).length-(V.length+1)<(itmW S).length-V.length;omega),rfl,hE7,hO7,hz7,List.nodup_cons.2 ⟨hnk,hVn⟩,hV3,rfl,rfl,trivial⟩
 have hi':i<sp.length:=by omega
 have hI:=hinv i hi;have hfi:=hfn i;obtain⟨b,t,o,hst⟩:∃b t o,twF k sp i=(b,t,o):=⟨_,_,_,rfl⟩;rw[hst] at hI hO7 hz7 hfi ⊢;simp only at hO7 hz7 hfi;have hbl:b<sp.length:=by
  rcases Nat.eq_zero_or_pos i with h0|h0
  ·have:=hI.b0 h0
   cases this;omega
  ·have:=hI.bl h0
   simp only at this;omega
 clear hI;have hRw:=hrw h7 _ (List.mem_cons_of_mem _ (List.mem_cons_of_mem _ hmem)) hO7;obtain⟨bS,oS,oaS,rfl,row,hrow,hx⟩:=hRw i hi';have ex:row=rowW sp[i]:=hx;have hxi:sp.getD i recZ=sp[i]:=by rw[List.getD_eq_getElem?_getD,List.getElem?_eq_getElem hi'];rfl
 have hyb:sp.getD b recZ=sp[b]:=by rw[List.getD_eq_getElem?_getD,List.getElem?_eq_getElem hbl];rfl
 clear hx;have hnew:=ZTU (k:=k) (l:=sp) (i:=i) (b:=b) (t:=t) (o:=o) hst;have htold:=fun ht:t=true=>ZSw (k:=k) (l:=sp) (i:=i) (b:=b) (o:=o) (by rw[hst,ht]);have hsame:=fun ht:t=false=>ZSV (k:=k) (l:=sp) (i:=i) (b:=b) (o:=o) (by rw[hst,ht]);have hadd:=fun ht:t=false=>ZTb (k:=k) (l:=sp) (i:=i) (b:=b) (o:=o) (by rw[hst,ht]);rw[hxi,hyb] at hnew htold hsame hadd;have hyE:∃y,y=sp[b]:=⟨_,rfl⟩;obtain⟨y,hyE⟩:=hyE;rw[<-hyE] at hnew htold hsame hadd;have hxE:∃x,x=sp[i]:=⟨_,rfl⟩;obtain⟨x,hxE⟩:=hxE;rw[<-hxE] at hnew htold hsame hadd ex;subst ex;refine zy ?_;refine ZAD rfl rfl rfl rfl (A_ix Und.h Tsz.h rfl rfl) ?_
 refine zy ?_;refine ZBQ fun hw7=>?_;refine ZB8 rfl rfl Zr.h fun h8 hE8 hW8 hg8 hn8=>?_;have hO8:=hO7.newCe hw7 hE7.2.1 hE8 hg8 (Nat.le_refl _);have hE78:=hE7.trans hE8;generalize h7.nx=bx at hO8 hg8 ⊢;refine zy ?_;refine ZKz (r:=rowW x) hw hE78 rfl Tsz.h rfl rfl hO8 rfl rfl rfl fun h9 hW9 hO9 hE9=>?_;have hgx:h9.get bx=some (.cells (rowW x) 44 false):=hO9.p1;have hRw9:=hrw h9 _ (List.mem_cons_of_mem _ (List.mem_cons_of_mem _ (List.mem_cons_of_mem _ hmem))) hO9;obtain⟨bS',oS',oaS',eS',row',hrow',hx'⟩:=hRw9 b hbl;cases eS';have ex':row'=rowW sp[b]:=hx';rw[<-hyE] at ex';subst ex';have hx2:ZAb h9 bx (0+2)=some (i64 x.day):=ZAk hgx rfl
 have hx5:ZAb h9 bx (0+5)=some (str x.b):=ZAk hgx rfl;have hy2:ZAb h9 bS (oS+b*6+2)=some (i64 y.day):=ZAP (k:=2) hrow' rfl;have hy5:ZAb h9 bS (oS+b*6+5)=some (str y.b):=ZAP (k:=5) hrow' rfl;clear hO8 hO7 hRw hRw9 hrow hE78 hE8 hg8
 by_cases hd:x.day≠y.day
 ·have hst2:=hnew hd
  refine zy ?_;refine ZAM hmix [0,1,0,0,12,28,60,127] [0,1,2,3,4,5,6,7] none [] (by kernel_rfl) (by kernel_rfl) ?_;refine z_f ?_;refine z_l ?_;refine z_m ?_;refine z_m ?_;refine ZAB rfl rfl rfl rfl rfl (fun _=>A_ix (k:=b) Und.h Tsz.h rfl rfl hbl) ?_;refine z_f ?_;refine z_l ?_;refine ZAB rfl rfl rfl rfl rfl (fun _=>A_tt hd (ZA3 rfl rfl)) ?_;refine ZAT (ZAC rfl) nb' ?_;refine zy ?_;have hRw9:=hrw h9 _ (List.mem_cons_of_mem _ (List.mem_cons_of_mem _ (List.mem_cons_of_mem _ hmem))) hO9;obtain⟨bS',oS',oaS',eS',row',hrow3,hx'⟩:=hRw9 i hi';cases eS';have ex':row'=rowW sp[i]:=hx';rw[<-hxE] at ex';subst ex'
  have hz5:ZAb h9 bS (oS+i*6+5)=some (str x.b):=ZAP (k:=5) hrow3 rfl;refine ZAM hmix [0,1,3,7,15,7,7,103,231,487,1023,2047] [0,1,2,3,4,5,6,7,8,9,10,11] none [] (by kernel_rfl) (by kernel_rfl) ?_;refine z_m ?_;refine z_n ?_;refine z_m ?_;refine g_f ?_;refine g_l ?_;refine g_m ?_;refine g_m ?_
  first|refine ZAW rfl rfl rfl rfl ?_|refine ZAB rfl rfl rfl rfl rfl (fun _=>A_ix (k:=i) Und.h Tsz.h rfl rfl hi') ?_
  refine g_f ?_;refine g_l ?_
  first|refine ZAW rfl rfl rfl rfl ?_|refine ZAB rfl rfl rfl rfl rfl (fun _=>A_ff (fun q=>q rfl) (ZAi rfl rfl)) ?_
  refine z_p ?_;refine ZAT (ZAC rfl) nb' ?_;refine zy ?_;refine⟨(i+1,va),(by show sp.length-(i+1)<sp.length-i;omega),rfl,hE9,hi',?_,?_,rfl,rfl,rfl,?_,?_,rfl,rfl,rfl,rfl,trivial⟩
  all_goals simp only[hst2]
  ·exact hO9.tail
  ·exact hz7
  ·rfl
  ·rfl
 have hds:x.day=y.day:=Decidable.not_not.1 hd
 cases t with
 | true =>
  have hst2:=htold rfl hd;refine zy ?_;refine ZAM hmix [0,1,0,0,12,28,60,127] [0,1,2,3,4,5,6,7] none [] (by kernel_rfl) (by kernel_rfl) ?_;refine z_f ?_;refine z_l ?_;refine z_m ?_;refine z_m ?_;refine ZAB rfl rfl rfl rfl rfl (fun _=>A_ix (k:=b) Und.h Tsz.h rfl rfl hbl) ?_;refine z_f ?_;refine z_l ?_;refine ZAB rfl rfl rfl rfl rfl (fun _=>A_ff hd (ZA3 rfl rfl)) ?_;refine ZAT (ZAC rfl) nb' ?_;refine zy ?_;refine ZAM hmix [0,1,3,7,15,7,7,103,231,487,1023,2047] [0,1,2,3,4,5,6,7,8,9,10,11] none [] (by kernel_rfl) (by kernel_rfl) ?_;refine z_m ?_;refine z_n ?_;refine z_m ?_;refine g_f ?_;refine g_l ?_;refine g_m ?_;refine g_m ?_;refine z_o ?_;refine g_f ?_;refine g_l ?_;refine z_o ?_;refine z_p ?_
  refine ZAT (ZAC rfl) nb' ?_;refine zy ?_;refine⟨(i+1,va),(by show sp.length-(i+1)<sp.length-i;omega),rfl,hE9,hi',?_,?_,rfl,rfl,rfl,?_,?_,rfl,rfl,rfl,rfl,trivial⟩
  all_goals simp only[hst2]
  ·exact hO9.tail
  ·exact hz7
  ·rfl
  ·rfl
 | false =>
  by_cases hbb:x.b≠y.b
  rotate_left
  ·have hst2:=hsame rfl hd hbb
   refine zy ?_;refine ZAM hmix [0,1,0,0,12,28,60,127] [0,1,2,3,4,5,6,7] none [] (by kernel_rfl) (by kernel_rfl) ?_;refine z_f ?_;refine z_l ?_;refine z_m ?_;refine z_m ?_;refine ZAB rfl rfl rfl rfl rfl (fun _=>A_ix (k:=b) Und.h Tsz.h rfl rfl hbl) ?_;refine z_f ?_;refine z_l ?_;refine ZAB rfl rfl rfl rfl rfl (fun _=>A_ff hd (ZA3 rfl rfl)) ?_;refine ZAT (ZAC rfl) nb' ?_;refine zy ?_;refine ZAM hmix [0,1,3,7,15,7,7,103,231,487,1023,2047] [0,1,2,3,4,5,6,7,8,9,10,11] none [] (by kernel_rfl) (by kernel_rfl) ?_;refine z_m ?_;refine z_n ?_;refine z_m ?_;refine g_f ?_;refine g_l ?_;refine g_m ?_;refine g_m ?_
   first|refine ZAW rfl rfl rfl rfl ?_|refine ZAB rfl rfl rfl rfl rfl (fun _=>A_ix (k:=b) Und.h Tsz.h rfl rfl hbl) ?_
   refine g_f ?_;refine g_l ?_
   first|refine ZAW rfl rfl rfl rfl ?_|refine ZAB rfl rfl rfl rfl rfl (fun _=>A_ff hbb (ZAi rfl rfl)) ?_
   refine z_p ?_;refine ZAT (ZAC rfl) nb' ?_;refine zy ?_;refine⟨(i+1,va),(by show sp.length-(i+1)<sp.length-i;omega),rfl,hE9,hi',?_,?_,rfl,rfl,rfl,?_,?_,rfl,rfl,rfl,rfl,trivial⟩
   all_goals simp only[hst2]
   ·exact hO9.tail
   ·exact hz7
   ·rfl
   ·rfl
  have hst2:=hadd rfl hd hbb;refine zy ?_;refine ZAM hmix [0,1,0,0,12,28,60,127] [0,1,2,3,4,5,6,7] none [] (by kernel_rfl) (by kernel_rfl) ?_;refine z_f ?_;refine z_l ?_;refine z_m ?_;refine z_m ?_;refine ZAB rfl rfl rfl rfl rfl (fun _=>A_ix (k:=b) Und.h Tsz.h rfl rfl hbl) ?_;refine z_f ?_;refine z_l ?_;refine ZAB rfl rfl rfl rfl rfl (fun _=>A_ff hd (ZA3 rfl rfl)) ?_;refine ZAT (ZAC rfl) nb' ?_;refine zy ?_;refine ZAM hmix [0,1,3,7,15,7,7,103,231,487,1023,2047] [0,1,2,3,4,5,6,7,8,9,10,11] none [] (by kernel_rfl) (by kernel_rfl) ?_;refine z_m ?_;refine z_n ?_;refine z_m ?_;refine g_f ?_;refine g_l ?_;refine g_m ?_;refine g_m ?_
  first|refine ZAW rfl rfl rfl rfl ?_|refine ZAB rfl rfl rfl rfl rfl (fun _=>A_ix (k:=b) Und.h Tsz.h rfl rfl hbl) ?_
  refine g_f ?_;refine g_l ?_
  first|refine ZAW rfl rfl rfl rfl ?_|refine ZAB rfl rfl rfl rfl rfl (fun _=>A_tt hbb (ZAi rfl rfl)) ?_
  refine z_p ?_;refine ZAT (ZAC rfl) nb' ?_;refine zy ?_;refine ZAM hmix [0,0,0,4,0,0,48,112,240,0,1008,2046,4094,8191,16383] [0,1,2,3,4,5,6,7,9] (some 8) [([],(some 10)),([11,12],(some 13)),([],(some 14)),([],none)] (by kernel_rfl) (by kernel_rfl) ?_;refine z_m ?_;refine z_m ?_;refine z_f ?_;refine z_l ?_;refine z_m ?_;refine z_m ?_;refine ZAB rfl rfl rfl rfl rfl (fun _=>A_ix (k:=b) Und.h Tsz.h rfl rfl hbl) ?_;refine z_r ?_;refine z_r ?_;refine ZAK [4,5,6,7] (by kernel_rfl) rfl (ZAC rfl) rfl nb (kF (dF (dF (dF (dF (kF (kF (kF (kF nF))))))))) (ZBU (ZAc rfl rfl rfl rfl rfl Bod.h (ZJ7 y _) (fun h10 hE10 hw10=>?_)))
  have hgx10:=hE10.get hgx;have hrow10:=hE10.row hrow';have hx210:=hE10.cell hx2;refine ZAK [4,5,6,7,8,9] (by kernel_rfl) rfl (by refine t_r 9 ?_;refine t_l 3 ?_;refine t_f 2 ?_;refine t_m 1 ?_;refine t_m 0 ?_;exact ZAC rfl) rfl nb (dF (kF (kF (kF (kF nF))))) (ZBU (ZAc rfl rfl rfl rfl rfl Bod.h (ZJ7 x _) (fun h11 hE11 hw11=>?_)));have hgx11:=hE11.get hgx10;have hrow11:=hE11.row hrow10;have hx211:=hE11.cell hx210;have hO11:=((hO9.ext hE10).ext hE11).up3;have hE911:=(hE9.trans hE10).trans hE11;have hEa:=Ext.add hw11 (.cells (rowT (k,x.day,y.key,x.key)) 82 false);have hgxa:=hEa.get hgx11;have hrowa:=hEa.row hrow11
  have hx2a:=hEa.cell hx211;have hbd:(B++o).length<=50000:=by rw[List.length_append];omega
  refine ZAB rfl rfl rfl rfl rfl (fun _=>ZDV (v:=.agg ⟨rowT (k,x.day,y.key,x.key)⟩) rfl (by kernel_rfl)) ?_;refine ZC5 (nk:=.sl _ _) rfl rfl rfl rfl rfl (fun _ _ hs=>N_bs hs Und.h Tsz.h Zr.h rfl rfl rfl rfl (ZTS _ _ _ _ _ _)) ?_;refine ZAK (h1:=(Heap.add h11 _)) [0,1,2,3,4,5,6,7,8,9,10,11,12] (by kernel_rfl) rfl (by refine t_l 3 ?_;refine t_f 2 ?_;refine t_m 1 ?_;refine t_m 0 ?_;exact ZAC rfl) rfl rfl (dF (dF (dF (dF (dF (dF nF)))))) (ZBU (ZBS (by':=72) (sz:=6) (k:=1) (n:=(B++o).length) (l:=rowT (k,x.day,y.key,x.key)) rfl hw (hE911.trans hEa) rfl rfl rfl rfl Und.h inferInstance rfl rfl (hO11.ext hEa) ((ZAA.lit (h0:=h1) (n:=1) (sz:=6) Heap.get_add_same rfl hE911.2.1).src (dd:=.slice 82) Und.h (by intro k;simp)) rfl rfl (by omega) (by omega) (fun v12 h12 hO12 hE12 hw12=>?_)))
  have hgx12:h12.get bx=some (.cells (rowW x) 44 false):=hO12.p2;have hx212:ZAb h12 bx (0+2)=some (i64 x.day):=ZAk hgx12 rfl;have hRw12:=hrw h12 _ (List.mem_cons_of_mem _ (List.mem_cons_of_mem _ (List.mem_cons_of_mem _ hmem))) hO12;obtain⟨bS',oS',oaS',eS',row',hrow12,hx'⟩:=hRw12 b hbl;cases eS';have ex':row'=rowW sp[b]:=hx';rw[<-hyE] at ex';subst ex';refine ZAK (h1:=h12) [0,1,2,3,4,5,6,7,8,9,10,11,12,13] (by kernel_rfl) rfl (ZAC rfl) rfl rfl nF (ZDm rfl rfl (ZBG rfl) ?_);refine ZAT (h1:=h12) (ZAC rfl) rfl ?_;refine zy ?_;have e6:(B++(o++[(k,x.day,y.key,x.key)]))=(B++o)++[(k,x.day,y.key,x.key)]:=(List.append_assoc _ _ _).symm
  refine⟨(i+1,v12),(by show sp.length-(i+1)<sp.length-i;omega),rfl,hE12,hi',?_,?_,rfl,rfl,rfl,?_,?_,rfl,rfl,rfl,rfl,trivial⟩
  all_goals simp only[hst2]
  ·rw[e6,List.flatMap_append,List.length_append]
   have h1:=hO12.up2.tail.up2;exact h1
  ·intro q
   simp at q
  ·rfl
  ·rfl
theorem ZSt {x:WkR}(h:ZAw x=0):0<=x.day/\x.day<=80000:=by
 unfold ZAw at h
 split at h
 ·exact absurd h (by decide)
 split at h
 ·exact absurd h (by decide)
 ·omega
theorem ZQm {S:List WkR}{k:Str}{d:Int}{C:List Twc}(hC:DayJ S k d C):C.length<=S.length:=by
 have h1:C.Nodup:=hC.1.imp fun {a b} hab e=>by rw[e] at hab;omega
 have h2:=ZA2 h1 fun z hz=>ZQH.2 ((hC.2 z).1 hz).1;have h3:=ZI9 k (ZBB S 80000 k) (ZBB S 80000 k).length;have h4:(ZBB S 80000 k).length<=(plcW S 80000 k).length:=ZBZ ZA5 _;have h5:=ZEa S 80000 k;have h6:(twO k (ZBB S 80000 k)).length<=(ZBB S 80000 k).length:=h3;omega
theorem ZRN {S:List WkR}{K:List Str}{i:Nat}(hi:i<K.length):twL S (K.take (i+1))=twL S (K.take i)++twO K[i] (ZBB S 80000 K[i]):=by
 unfold twL;rw[List.take_add_one,List.getElem?_eq_getElem hi,Option.toList_some,List.flatMap_append,List.flatMap_cons,List.flatMap_nil,List.append_nil]
set_option maxHeartbeats 16000000 in
theorem ZLe {ad:Option Addr}{cap:Nat}{l:List WkR}{h:Heap}(hR:ZDC h ad l)(hf:∀x∈l,x.Fit)(hlen:Len l) :
  Sv Tryz.prog 45 [.slice ad l.length cap] h (RetP fun v h'=>(∃v1,v=.tuple ⟨[v1,i64 (ZDQ l).2]⟩/\ZAA h h' v1 82 6 ((ZDQ l).1.flatMap rowT) (ZDQ l).1.length)/\Ext h h'):=by
 have hcl:=ZCm (l:=l);have hcg:=ZCN (l:=l);refine ZAG Tryz.func45 rfl (by rw[Tryz.ntmps45];rfl) ?_;show Wc Tryz.prog ⟨45,132,none⟩ _ _ _ _ _;refine zy ?_;refine ZAV rfl rfl rfl rfl rfl Bod.h rfl rfl (ZE4 hR hf hlen) fun h1 hE1=>?_;refine zy ?_;refine ZAN rfl rfl rfl rfl (ZA3 rfl rfl) (fun hc=>?_) (fun hc=>?_)
 ·have hs:ZDQ l=([],(chkS l).2):=if_pos hc
  rw[hs];refine zy ?_;exact ZAE (ZAF rfl ⟨⟨_,rfl,ZAA.nil _ _ _ _⟩,hE1⟩)
 have hc0:(chkS l).2=0:=Decidable.not_not.1 hc;have hs:ZDQ l=(twcS (ZAe (mrgU ltW l)),0):=if_neg hc;replace hcg:=hcg hc0;replace hcl:=hcl hc0;have hsl:(ZAe (mrgU ltW l)).length<=l.length:=ZCz l;have hsu:=ZGn l;have hsd:∀x∈ZAe (mrgU ltW l),0<=x.day/\x.day<=80000:=fun x hx=>ZSt (hcg x (ZC0 hx));rw[hs];clear hs;refine zy ?_;refine ZAI rfl rfl rfl rfl rfl Bod.h rfl rfl (ZHE (hR.ext hE1) hf (by omega)) ?_;rintro _ h2 ⟨⟨a8,a4,rfl,hS8,-⟩,hE2⟩;replace hsu:(ZAe (mrgU ltW l)).Pairwise ltW:=hsu;generalize ZAe (mrgU ltW l)=S at *;generalize ZA1 (mrgU ltW l)=F at *;refine zy ?_;refine ZAI rfl rfl rfl rfl rfl Bod.h rfl rfl (ZE5 hS8.1 (by omega)) ?_
 rintro _ h3 ⟨hF3,hE3⟩;obtain⟨a3,rfl,hl3,hL3⟩:=ZAA.list hF3;have hil:=ZD4 S;have hml:=ZBZ ZAJ (itmW S);have hE13:=hE1.trans (hE2.trans hE3);have hS3:ZAs 6 (fun _ row x=>row=rowW x) h3 a8 S:=ZAs.ext (fun hr _=>hr) hS8.1 hE3;have htw:twcS S=twL S (mrgU ltB (itmW S)):=rfl;rw[htw];generalize mrgU ltB (itmW S)=K at *;refine ZBQ fun hw3=>?_;have hTl:∀i,(twL S (K.take i)).length<=40000:=fun i=>ZLy hsu (by omega) (by rw[List.length_take];omega);have hKl:K.length<=200:=by omega
 have hSl:S.length<=200:=by omega
 clear hF3 hl3 htw hil hml hcl hcg hsl hS8 hE1 hE2 hE3 hf hlen hR;refine zy ?_;refine ZAQ (fun (st:Nat×Value) m ds h'=>ds=[]/\Ext h3 h'/\st.1<=K.length/\Own h3 h' [slI h3 st.2 82 6 ((twL S (K.take st.1)).flatMap rowT) (twL S (K.take st.1)).length]/\AllK m [(0,.slice a8 S.length S.length),(6,.slice a3 K.length K.length),(7,st.2),(8,i64 (st.1:Nat))]) (fun st=>K.length-st.1) (0,.slice none 0 0) ?_ ?_
 ·exact⟨rfl,Ext.refl _,Nat.zero_le _,(Own.nil h3 h3).nilSl _ _,rfl,rfl,rfl,rfl,trivial⟩
 rintro⟨i,v⟩ m ds h4 ⟨rfl,hE4,hi,hO4,hall⟩;refine Wc.le ?_ (Le.kn hall);clear hall;simp only at hi hO4 ⊢;refine zy ?_;refine ZAN rfl rfl rfl rfl (ZAY rfl rfl) (fun hil=>?_) (fun hil=>?_);rotate_left
 ·have:i=K.length:=by omega
  subst this;rw[List.take_length] at hO4;refine zy ?_;exact ZAE (ZAF rfl ⟨⟨_,rfl,ZAA.base (show ZAA h3 h4 v 82 6 ((twL S K).flatMap rowT) (twL S K).length from hO4.p1) hE13.2.1⟩,hE13.trans hE4⟩)
 have hi':i<K.length:=by omega
 have htk:=ZRN (S:=S) hi';have hTi:=hTl i;obtain⟨bK,oK,oaK,rfl,hcK0⟩:=hL3 i hi';generalize K[i]=k at *;refine zy ?_;refine ZAQ (fun (st:Int×Value×List Twc) m ds h'=>ds=[]/\Ext h3 h'/\DayJ S k st.1 st.2.2/\Own h3 h' [slI h3 st.2.1 82 6 ((twL S (K.take i)++st.2.2).flatMap rowT) (twL S (K.take i)++st.2.2).length]/\AllK m [(0,.slice a8 S.length S.length),(6,.slice (some ⟨bK,oK,oaK⟩) K.length K.length),(7,st.2.1),(8,i64 (i:Nat)),(9,i64 st.1)]) (fun st=>(80003-st.1).toNat) (0,v,[]) ?_ ?_
 ·exact⟨rfl,hE4,DayJ.zero fun x hx=>(hsd x hx).1,by rw[List.append_nil];exact hO4,rfl,rfl,rfl,rfl,rfl,trivial⟩
 clear hO4 hE4;rintro⟨d,v',C⟩ m ds h5 ⟨rfl,hE5,hC,hO5,hall⟩;refine Wc.le ?_ (Le.kn hall);clear hall;simp only at hC hO5 ⊢;refine zy ?_;refine ZAN rfl rfl rfl rfl (ZGe rfl rfl) (fun hd8=>?_) (fun hd8=>?_);rotate_left
 ·have hCd:=hC.done (by omega)
  rw[hCd,<-htk] at hO5;refine zy ?_;exact⟨(i+1,v'),(by show K.length-(i+1)<K.length-i;omega),rfl,hE5,hi',hO5,rfl,rfl,rfl,rfl,trivial⟩
 have hClen:=ZQm hC;have hS5:ZAs 6 (fun _ row x=>row=rowW x) h5 a8 S:=ZAs.ext (fun hr _=>hr) hS3 hE5;have hcK:=hE5.cell hcK0;refine zy ?_;refine ZAQ (fun (st:Nat×Int×Int×Int) m ds h'=>ds=[]/\h5=h'/\st.1<=S.length/\NJ S k d st.1 st.2/\AllK m [(0,.slice a8 S.length S.length),(6,.slice (some ⟨bK,oK,oaK⟩) K.length K.length),(7,v'),(8,i64 (i:Nat)),(9,i64 d),(10,i64 st.2.1),(11,i64 st.2.2.1),(12,i64 st.2.2.2),(13,i64 (st.1:Nat))]) (fun st=>S.length-st.1) (0,80001,-1,-1) ?_ ?_
 ·exact⟨rfl,rfl,Nat.zero_le _,NJ.zero S k d,rfl,rfl,rfl,rfl,rfl,rfl,rfl,rfl,rfl,trivial⟩
 rintro⟨n,at',fi,oi⟩ m ds h6 ⟨rfl,rfl,hn,hJ,hall⟩;refine Wc.le ?_ (Le.kn hall);clear hall;simp only at hn hJ ⊢;refine zy ?_;refine ZAN rfl rfl rfl rfl (ZAY rfl rfl) (fun hnl=>?_) (fun hnl=>?_);rotate_left
 ·have:n=S.length:=by omega
  subst this;unfold NJ at hJ;rw[List.take_length] at hJ
  rcases hJ with ⟨hq,e⟩|⟨jf,f,e1,hjf,hfq,e2,h5,hoth⟩
  ·cases e
   have hC2:=hC.none hq;refine zy ?_;refine ZAD rfl rfl rfl rfl (A_ff (by decide) (ZFF rfl rfl)) ?_;refine zy ?_;exact⟨(80002,v',C),(by show (80003-80002:Int).toNat<(80003-d).toNat;omega),rfl,hE5,hC2,hO5,rfl,rfl,rfl,rfl,rfl,trivial⟩
  simp only at e1 e2 hoth;subst e1;subst e2;obtain⟨g1,g2⟩:=DayJ.step hsd hC hfq h5;have hfd:=(ZLR.1 hfq).2.2.2;have hfm:=(hsd f (ZLR.1 hfq).1).2;have hf0:=(hsd f (ZLR.1 hfq).1).1
  rcases hoth with ⟨rfl,hno⟩|⟨jo,o,rfl,hjo,hoq,ho2,ho3,ho4⟩
  ·have hC2:=g1 hno
   refine zy ?_;refine ZAD rfl rfl rfl rfl (A_ff (by decide) (ZFF rfl rfl)) ?_;refine zy ?_;exact⟨(f.day+1,v',C),(by show (80003-(f.day+1):Int).toNat<(80003-d).toNat;omega),rfl,hE5,hC2,hO5,rfl,rfl,rfl,rfl,rfl,trivial⟩
  have hC2:=g2 o hoq ho2 ho3 ho4;clear g1 g2 hoq ho2 ho3 ho4 hfq h5;obtain⟨hjf1,hjf2⟩:=List.getElem?_eq_some_iff.1 hjf;obtain⟨hjo1,hjo2⟩:=List.getElem?_eq_some_iff.1 hjo;obtain⟨b,oS,oa,rfl,row,hrow,hx⟩:=hS5 jf hjf1;obtain⟨b',oS',oa',eb,row',hrow',hx'⟩:=hS5 jo hjo1;cases eb;have ex:row=rowW f:=hx.trans (congrArg rowW hjf2);have ex':row'=rowW o:=hx'.trans (congrArg rowW hjo2);subst ex;subst ex';clear hx hx';refine ZBQ fun hw5=>?_;refine zy ?_;refine ZAD rfl rfl rfl rfl (A_tt (by omega) (ZFF rfl rfl)) ?_;refine zy ?_;refine ZAM hmix [0,0,0,6,14,0,0,0,192,448,960,0,0,6144,14336,32704,65534,131070,262143,524287] [0,1,2,3,4,5,6,7,8,9,11,12,13,14] (some 10) [([],(some 15)),([16,17],(some 18)),([],(some 19)),([],none)] (by kernel_rfl) (by kernel_rfl) ?_
  refine z_m ?_;refine z_m ?_;refine z_m ?_;refine ZAB rfl rfl rfl rfl rfl (fun _=>A_ix (k:=i) Und.h Tsz.h rfl rfl hi') ?_;refine z_l ?_;refine z_m ?_;refine z_m ?_;refine z_m ?_;refine ZAB rfl rfl rfl rfl rfl (fun _=>A_ix (k:=jf) Und.h Tsz.h rfl rfl hjf1) ?_;refine z_r ?_;refine z_m ?_;refine z_m ?_;refine ZAB rfl rfl rfl rfl rfl (fun _=>A_ix (k:=jo) Und.h Tsz.h rfl rfl hjo1) ?_;refine z_r ?_;refine ZAK [6,7,8,9] (by kernel_rfl) rfl (ZAC rfl) rfl nb (kF (kF (kF (kF (dF (dF (dF (dF (kF (kF (kF (kF (kF (kF nF)))))))))))))) (ZBU (ZAc rfl rfl rfl rfl rfl Bod.h (ZA0 f _) (fun h10 hE10 hw10=>?_)));have hcK10:=hE10.cell hcK
  have hrow10:=hE10.row hrow;have hrow10':=hE10.row hrow';refine ZAK [6,7,8,9,10,11,12,13,14] (by kernel_rfl) rfl (by refine t_r 14 ?_;refine ZAn (i:=13) rfl rfl rfl rfl rfl (fun _=>A_ix (k:=jo) Und.h Tsz.h rfl rfl hjo1) rfl ?_;refine t_m 12 ?_;refine t_m 11 ?_;refine t_m 5 ?_;refine t_l 4 ?_;refine ZAn (i:=3) rfl rfl rfl rfl rfl (fun _=>A_ix (k:=i) Und.h Tsz.h rfl rfl hi') rfl ?_;refine t_m 2 ?_;refine t_m 1 ?_;refine t_m 0 ?_;exact ZAC rfl) rfl nb (dF (dF (dF (dF (kF (kF (kF (kF (kF (kF nF)))))))))) (ZBU (ZAc rfl rfl rfl rfl rfl Bod.h (ZA0 o _) (fun h11 hE11 hw11=>?_)));have hcK11:=hE11.cell hcK10
  have hrow11:=hE11.row hrow10;have hrow11':=hE11.row hrow10';have hO11:=(hO5.ext hE10).ext hE11;have hE911:=(hE5.trans hE10).trans hE11;have hEa:=Ext.add hw11 (.cells (rowT (k,f.day,f.key,o.key)) 82 false);have hcKa:=hEa.cell hcK11;have hrowa:=hEa.row hrow11;have hrowa':=hEa.row hrow11';have hbd:(twL S (K.take i)++C).length<=50000:=by rw[List.length_append];omega
  refine ZAB rfl rfl rfl rfl rfl (fun _=>ZDV (v:=.agg ⟨rowT (k,f.day,f.key,o.key)⟩) rfl (by kernel_rfl)) ?_;refine ZC5 (nk:=.sl _ _) rfl rfl rfl rfl rfl (fun _ _ hs=>N_bs hs Und.h Tsz.h Zr.h rfl rfl rfl rfl (ZTS _ _ _ _ _ _)) ?_;refine ZAK (h1:=(Heap.add h11 _)) [0,1,2,3,4,5,6,7,8,9,10,11,12,13,14,15,16,17] (by kernel_rfl) rfl (by refine t_m 5 ?_;refine t_l 4 ?_;refine ZAn (i:=3) rfl rfl rfl rfl rfl (fun _=>A_ix (k:=i) Und.h Tsz.h rfl rfl hi') rfl ?_;refine t_m 2 ?_;refine t_m 1 ?_;refine t_m 0 ?_;exact ZAC rfl) rfl rfl (dF (dF (dF (dF (dF (dF (dF (dF nF)))))))) (ZBU (ZBS (by':=72) (sz:=6) (k:=1) (n:=(twL S (K.take i)++C).length) (l:=rowT (k,f.day,f.key,o.key)) rfl hw3 (hE911.trans hEa) rfl rfl rfl rfl Und.h inferInstance rfl rfl (hO11.ext hEa) ((ZAA.lit (h0:=h3) (n:=1) (sz:=6) Heap.get_add_same rfl hE911.2.1).src (dd:=.slice 82) Und.h (by intro k;simp)) rfl rfl (by omega) (by omega) (fun v12 h12 hO12 hE12 hw12=>?_)))
  refine ZAK (h1:=h12) [0,1,2,3,4,5,6,7,8,9,10,11,12,13,14,15,16,17,18] (by kernel_rfl) rfl (ZAC rfl) rfl rfl nF (ZDm rfl rfl (ZBG rfl) ?_);refine ZAT (h1:=h12) (ZAC rfl) rfl ?_;refine zy ?_;have e6:(twL S (K.take i)++(C++[(k,f.day,f.key,o.key)]))=(twL S (K.take i)++C)++[(k,f.day,f.key,o.key)]:=(List.append_assoc _ _ _).symm;refine⟨(f.day+1,v12,C++[(k,f.day,f.key,o.key)]),(by show (80003-(f.day+1):Int).toNat<(80003-d).toNat;omega),rfl,hE12,hC2,?_,rfl,rfl,rfl,rfl,rfl,trivial⟩;simp only;rw[e6,List.flatMap_append,List.length_append];exact hO12
 have hn':n<S.length:=by omega
 have hxd:=(hsd _ (List.getElem_mem hn')).2;have hskip:¬qB k d S[n]=true->NJ S k d (n+1) (at',fi,oi):=fun q=>hJ.skip hn' q;have hless:qB k d S[n]=true->S[n].day<at'->NJ S k d (n+1) (S[n].day,(n:Nat),-1):=fun q1 q2=>hJ.less hn' q1 q2;have hother:=fun (q1:qB k d S[n]=true) (q2:S[n].day=at') (q3:oi<0) (jf:Nat) (f:WkR) (q4:fi=(jf:Nat)) (q5:S[jf]?=some f) (q6:S[n].b≠f.b)=>NJ.other hJ hsu hn' q1 hxd q2 q3 q4 q5 q6;have hkeep:=fun (q1:qB k d S[n]=true) (q2:¬S[n].day<at') (q3:S[n].day=at'->oi<0->∀(jf:Nat) (f:WkR),fi=(jf:Nat)->S[jf]?=some f->S[n].b=f.b)=>NJ.keep hJ hsu hn' q1 hxd q2 q3;have hqb:qB k d S[n]=decide (S[n].kind=5/\S[n].a=k/\d<=S[n].day):=rfl
 have hfi:S[n].day=at'->∃(jf:Nat) (f:WkR),fi=(jf:Nat)/\S[jf]?=some f:=fun q=>by
  rcases hJ with ⟨-,e⟩|⟨jf,f,e1,e2,-⟩
  ·cases e;omega
  ·exact⟨jf,f,e1,e2⟩
 obtain⟨b,oS,oa,rfl,row,hrow,hx⟩:=hS5 n hn';have ex:row=rowW S[n]:=hx;clear hx hJ;generalize S[n]=x at *;subst ex;have hc2:ZAb h5 b (oS+n*6+2)=some (i64 x.day):=ZAP (k:=2) hrow rfl;have hc3:ZAb h5 b (oS+n*6+3)=some (i64 x.kind):=ZAP (k:=3) hrow rfl;have hc4:ZAb h5 b (oS+n*6+4)=some (str x.a):=ZAP (k:=4) hrow rfl;have hc5:ZAb h5 b (oS+n*6+5)=some (str x.b):=ZAP (k:=5) hrow rfl;refine zy ?_
 by_cases c1:x.kind=5
 rotate_left
 ·have hJ2:=hskip (by rw[hqb];exact fun q=>c1 (of_decide_eq_true q).1)
  refine ZAM hmix [0,0,3,7,15,31,63,127,127,511,1023,2047,127,127,12415,28799,65535,131071,262143,524287,524287,2097151,4194303,8388607,524287,33554431,67108863] [0,1,2,3,4,5,6,7,8,9,10,11,12,13,14,15,16,17,18,19,20,21,22,23,24,25,26] none [] (by kernel_rfl) (by kernel_rfl) ?_;refine z_m ?_;refine z_m ?_;refine ZAB rfl rfl rfl rfl rfl (fun _=>A_ix (k:=n) Und.h Tsz.h rfl rfl hn') ?_;refine z_f ?_;refine z_l ?_;refine ZAB rfl rfl rfl rfl rfl (fun _=>A_tt c1 (ZA3 rfl rfl)) ?_;refine z_m ?_;refine g_m ?_;refine g_m ?_;refine z_o ?_;refine g_f ?_;refine g_l ?_;refine g_m ?_;refine g_m ?_;refine z_o ?_;refine g_l ?_;refine z_o ?_;refine z_p ?_;refine z_m ?_;refine g_m ?_;refine g_m ?_;refine z_o ?_;refine g_f ?_;refine g_l ?_;refine g_m ?_;refine z_o ?_;refine z_p ?_
  refine ZAT (ZAC rfl) nb' ?_;refine zy ?_;exact⟨(n+1,at',fi,oi),(by show S.length-(n+1)<S.length-n;omega),rfl,rfl,hn',hJ2,rfl,rfl,rfl,rfl,rfl,rfl,rfl,rfl,rfl,trivial⟩
 by_cases c2:x.a=k
 rotate_left
 ·have hJ2:=hskip (by rw[hqb];exact fun q=>c2 (of_decide_eq_true q).2.1)
  refine ZAM hmix [0,0,3,7,15,31,63,127,127,511,1023,2047,127,127,12415,28799,65535,131071,262143,524287,524287,2097151,4194303,8388607,524287,33554431,67108863] [0,1,2,3,4,5,6,7,8,9,10,11,12,13,14,15,16,17,18,19,20,21,22,23,24,25,26] none [] (by kernel_rfl) (by kernel_rfl) ?_;refine z_m ?_;refine z_m ?_;refine ZAB rfl rfl rfl rfl rfl (fun _=>A_ix (k:=n) Und.h Tsz.h rfl rfl hn') ?_;refine z_f ?_;refine z_l ?_;refine ZAB rfl rfl rfl rfl rfl (fun _=>A_ff (fun q=>q c1) (ZA3 rfl rfl)) ?_;refine z_m ?_;refine g_m ?_;refine g_m ?_
  first|refine ZAW rfl rfl rfl rfl ?_|refine ZAB rfl rfl rfl rfl rfl (fun _=>A_ix (k:=n) Und.h Tsz.h rfl rfl hn') ?_
  refine g_f ?_;refine g_l ?_;refine g_m ?_;refine g_m ?_
  first|refine ZAW rfl rfl rfl rfl ?_|refine ZAB rfl rfl rfl rfl rfl (fun _=>A_ix (k:=i) Und.h Tsz.h rfl rfl hi') ?_
  refine g_l ?_
  first|refine ZAW rfl rfl rfl rfl ?_|refine ZAB rfl rfl rfl rfl rfl (fun _=>A_tt c2 (ZAi rfl rfl)) ?_
  refine z_p ?_;refine z_m ?_;refine g_m ?_;refine g_m ?_;refine z_o ?_;refine g_f ?_;refine g_l ?_;refine g_m ?_;refine z_o ?_;refine z_p ?_;refine ZAT (ZAC rfl) nb' ?_;refine zy ?_;exact⟨(n+1,at',fi,oi),(by show S.length-(n+1)<S.length-n;omega),rfl,rfl,hn',hJ2,rfl,rfl,rfl,rfl,rfl,rfl,rfl,rfl,rfl,trivial⟩
 by_cases c3:x.day<d
 ·have hJ2:=hskip (by rw[hqb];exact fun q=>absurd (of_decide_eq_true q).2.2 (by omega))
  refine ZAM hmix [0,0,3,7,15,31,63,127,127,511,1023,2047,127,127,12415,28799,65535,131071,262143,524287,524287,2097151,4194303,8388607,524287,33554431,67108863] [0,1,2,3,4,5,6,7,8,9,10,11,12,13,14,15,16,17,18,19,20,21,22,23,24,25,26] none [] (by kernel_rfl) (by kernel_rfl) ?_;refine z_m ?_;refine z_m ?_;refine ZAB rfl rfl rfl rfl rfl (fun _=>A_ix (k:=n) Und.h Tsz.h rfl rfl hn') ?_;refine z_f ?_;refine z_l ?_;refine ZAB rfl rfl rfl rfl rfl (fun _=>A_ff (fun q=>q c1) (ZA3 rfl rfl)) ?_;refine z_m ?_;refine g_m ?_;refine g_m ?_
  first|refine ZAW rfl rfl rfl rfl ?_|refine ZAB rfl rfl rfl rfl rfl (fun _=>A_ix (k:=n) Und.h Tsz.h rfl rfl hn') ?_
  refine g_f ?_;refine g_l ?_;refine g_m ?_;refine g_m ?_
  first|refine ZAW rfl rfl rfl rfl ?_|refine ZAB rfl rfl rfl rfl rfl (fun _=>A_ix (k:=i) Und.h Tsz.h rfl rfl hi') ?_
  refine g_l ?_
  first|refine ZAW rfl rfl rfl rfl ?_|refine ZAB rfl rfl rfl rfl rfl (fun _=>A_ff (fun q=>q c2) (ZAi rfl rfl)) ?_
  refine z_p ?_;refine z_m ?_;refine g_m ?_;refine g_m ?_
  first|refine ZAW rfl rfl rfl rfl ?_|refine ZAB rfl rfl rfl rfl rfl (fun _=>A_ix (k:=n) Und.h Tsz.h rfl rfl hn') ?_
  refine g_f ?_;refine g_l ?_;refine g_m ?_
  first|refine ZAW rfl rfl rfl rfl ?_|refine ZAB rfl rfl rfl rfl rfl (fun _=>A_tt c3 (ZAY rfl rfl)) ?_
  refine z_p ?_;refine ZAT (ZAC rfl) nb' ?_;refine zy ?_;exact⟨(n+1,at',fi,oi),(by show S.length-(n+1)<S.length-n;omega),rfl,rfl,hn',hJ2,rfl,rfl,rfl,rfl,rfl,rfl,rfl,rfl,rfl,trivial⟩
 have hq:qB k d x=true:=by rw[hqb];exact decide_eq_true ⟨c1,c2,by omega⟩
 refine ZAM hmix [0,0,3,7,15,31,63,127,127,511,1023,2047,127,127,12415,28799,65535,131071,262143,524287,524287,2097151,4194303,8388607,524287,33554431,67108863] [0,1,2,3,4,5,6,7,8,9,10,11,12,13,14,15,16,17,18,19,20,21,22,23,24,25,26] none [] (by kernel_rfl) (by kernel_rfl) ?_;refine z_m ?_;refine z_m ?_;refine ZAB rfl rfl rfl rfl rfl (fun _=>A_ix (k:=n) Und.h Tsz.h rfl rfl hn') ?_;refine z_f ?_;refine z_l ?_;refine ZAB rfl rfl rfl rfl rfl (fun _=>A_ff (fun q=>q c1) (ZA3 rfl rfl)) ?_;refine z_m ?_;refine g_m ?_;refine g_m ?_
 first|refine ZAW rfl rfl rfl rfl ?_|refine ZAB rfl rfl rfl rfl rfl (fun _=>A_ix (k:=n) Und.h Tsz.h rfl rfl hn') ?_
 refine g_f ?_;refine g_l ?_;refine g_m ?_;refine g_m ?_
 first|refine ZAW rfl rfl rfl rfl ?_|refine ZAB rfl rfl rfl rfl rfl (fun _=>A_ix (k:=i) Und.h Tsz.h rfl rfl hi') ?_
 refine g_l ?_
 first|refine ZAW rfl rfl rfl rfl ?_|refine ZAB rfl rfl rfl rfl rfl (fun _=>A_ff (fun q=>q c2) (ZAi rfl rfl)) ?_
 refine z_p ?_;refine z_m ?_;refine g_m ?_;refine g_m ?_
 first|refine ZAW rfl rfl rfl rfl ?_|refine ZAB rfl rfl rfl rfl rfl (fun _=>A_ix (k:=n) Und.h Tsz.h rfl rfl hn') ?_
 refine g_f ?_;refine g_l ?_;refine g_m ?_
 first|refine ZAW rfl rfl rfl rfl ?_|refine ZAB rfl rfl rfl rfl rfl (fun _=>A_ff c3 (ZAY rfl rfl)) ?_
 refine z_p ?_;refine ZAT (ZAC rfl) nb' ?_;refine zy ?_;refine ZAD rfl rfl rfl rfl (A_ix (k:=n) Und.h Tsz.h rfl rfl hn') ?_;refine zy ?_
 by_cases c4:x.day<at'
 ·have hJ2:=hless hq c4
  refine ZAD rfl rfl rfl rfl (A_tt c4 (ZAY rfl rfl)) ?_;refine zy ?_;refine ZAD rfl rfl rfl rfl (A_ix (k:=n) Und.h Tsz.h rfl rfl hn') ?_;refine zy ?_;exact⟨(n+1,x.day,(n:Nat),-1),(by show S.length-(n+1)<S.length-n;omega),rfl,rfl,hn',hJ2,rfl,rfl,rfl,rfl,rfl,rfl,rfl,rfl,rfl,trivial⟩
 refine ZAD rfl rfl rfl rfl (A_ff c4 (ZAY rfl rfl)) ?_;refine zy ?_
 by_cases c5:x.day=at'
 rotate_left
 ·have hJ2:=hkeep hq c4 fun q=>absurd q c5
  refine ZAM hmix [0,0,3,7,15,0,63,127,255,511,1023,2047,4095,4095,16383,32767,65535,4095,4095,397311,921599,1970175,4194303,8388607] [0,1,2,3,4,5,6,7,8,9,10,11,12,13,14,15,16,17,18,19,20,21,22,23] none [] (by kernel_rfl) (by kernel_rfl) ?_;refine z_m ?_;refine z_m ?_;refine ZAB rfl rfl rfl rfl rfl (fun _=>A_ix (k:=n) Und.h Tsz.h rfl rfl hn') ?_;refine z_f ?_;refine z_l ?_;refine z_m ?_;refine ZAB rfl rfl rfl rfl rfl (fun _=>A_ff c5 (ZAh rfl rfl)) ?_;refine z_m ?_;refine g_m ?_;refine z_o ?_;refine z_p ?_;refine z_m ?_;refine g_m ?_;refine g_m ?_;refine z_o ?_;refine g_f ?_;refine g_l ?_;refine g_m ?_;refine g_m ?_;refine z_o ?_;refine g_f ?_;refine g_l ?_;refine z_o ?_;refine z_p ?_
  refine ZAT (ZAC rfl) nb' ?_;refine zy ?_;exact⟨(n+1,at',fi,oi),(by show S.length-(n+1)<S.length-n;omega),rfl,rfl,hn',hJ2,rfl,rfl,rfl,rfl,rfl,rfl,rfl,rfl,rfl,trivial⟩
 by_cases c6:oi<0
 rotate_left
 ·have hJ2:=hkeep hq c4 fun _ q=>absurd q c6
  refine ZAM hmix [0,0,3,7,15,0,63,127,255,511,1023,2047,4095,4095,16383,32767,65535,4095,4095,397311,921599,1970175,4194303,8388607] [0,1,2,3,4,5,6,7,8,9,10,11,12,13,14,15,16,17,18,19,20,21,22,23] none [] (by kernel_rfl) (by kernel_rfl) ?_;refine z_m ?_;refine z_m ?_;refine ZAB rfl rfl rfl rfl rfl (fun _=>A_ix (k:=n) Und.h Tsz.h rfl rfl hn') ?_;refine z_f ?_;refine z_l ?_;refine z_m ?_;refine ZAB rfl rfl rfl rfl rfl (fun _=>A_tt c5 (ZAh rfl rfl)) ?_;refine z_m ?_;refine g_m ?_
  first|refine ZAW rfl rfl rfl rfl ?_|refine ZAB rfl rfl rfl rfl rfl (fun _=>A_ff c6 (ZAY rfl rfl)) ?_
  refine z_p ?_;refine z_m ?_;refine g_m ?_;refine g_m ?_;refine z_o ?_;refine g_f ?_;refine g_l ?_;refine g_m ?_;refine g_m ?_;refine z_o ?_;refine g_f ?_;refine g_l ?_;refine z_o ?_;refine z_p ?_;refine ZAT (ZAC rfl) nb' ?_;refine zy ?_;exact⟨(n+1,at',fi,oi),(by show S.length-(n+1)<S.length-n;omega),rfl,rfl,hn',hJ2,rfl,rfl,rfl,rfl,rfl,rfl,rfl,rfl,rfl,trivial⟩
 obtain⟨jf,f,rfl,hjf⟩:=hfi c5;obtain⟨hjf1,hjf2⟩:=List.getElem?_eq_some_iff.1 hjf;obtain⟨b',oS',oa',eb,row',hrow',hx'⟩:=hS5 jf hjf1;cases eb;have ex':row'=rowW f:=hx'.trans (congrArg rowW hjf2);subst ex';have hd5:ZAb h5 b (oS+jf*6+5)=some (str f.b):=ZAP (k:=5) hrow' rfl
 by_cases c7:x.b=f.b
 ·have hJ2:=hkeep hq c4 fun _ _ jf' f' q1 q2=>by
   have:jf=jf':=by omega
   subst this;rw[hjf] at q2;rw[c7,Option.some.inj q2]
  refine ZAM hmix [0,0,3,7,15,0,63,127,255,511,1023,2047,4095,4095,16383,32767,65535,4095,4095,397311,921599,1970175,4194303,8388607] [0,1,2,3,4,5,6,7,8,9,10,11,12,13,14,15,16,17,18,19,20,21,22,23] none [] (by kernel_rfl) (by kernel_rfl) ?_;refine z_m ?_;refine z_m ?_;refine ZAB rfl rfl rfl rfl rfl (fun _=>A_ix (k:=n) Und.h Tsz.h rfl rfl hn') ?_;refine z_f ?_;refine z_l ?_;refine z_m ?_;refine ZAB rfl rfl rfl rfl rfl (fun _=>A_tt c5 (ZAh rfl rfl)) ?_;refine z_m ?_;refine g_m ?_
  first|refine ZAW rfl rfl rfl rfl ?_|refine ZAB rfl rfl rfl rfl rfl (fun _=>A_tt c6 (ZAY rfl rfl)) ?_
  refine z_p ?_;refine z_m ?_;refine g_m ?_;refine g_m ?_
  first|refine ZAW rfl rfl rfl rfl ?_|refine ZAB rfl rfl rfl rfl rfl (fun _=>A_ix (k:=n) Und.h Tsz.h rfl rfl hn') ?_
  refine g_f ?_;refine g_l ?_;refine g_m ?_;refine g_m ?_
  first|refine ZAW rfl rfl rfl rfl ?_|refine ZAB rfl rfl rfl rfl rfl (fun _=>A_ix (k:=jf) Und.h Tsz.h rfl rfl hjf1) ?_
  refine g_f ?_;refine g_l ?_
  first|refine ZAW rfl rfl rfl rfl ?_|refine ZAB rfl rfl rfl rfl rfl (fun _=>A_ff (fun q=>q c7) (ZAi rfl rfl)) ?_
  refine z_p ?_;refine ZAT (ZAC rfl) nb' ?_;refine zy ?_;exact⟨(n+1,at',(jf:Nat),oi),(by show S.length-(n+1)<S.length-n;omega),rfl,rfl,hn',hJ2,rfl,rfl,rfl,rfl,rfl,rfl,rfl,rfl,rfl,trivial⟩
 have hJ2:=hother hq c5 c6 jf f rfl hjf c7;refine ZAM hmix [0,0,3,7,15,0,63,127,255,511,1023,2047,4095,4095,16383,32767,65535,4095,4095,397311,921599,1970175,4194303,8388607] [0,1,2,3,4,5,6,7,8,9,10,11,12,13,14,15,16,17,18,19,20,21,22,23] none [] (by kernel_rfl) (by kernel_rfl) ?_;refine z_m ?_;refine z_m ?_;refine ZAB rfl rfl rfl rfl rfl (fun _=>A_ix (k:=n) Und.h Tsz.h rfl rfl hn') ?_;refine z_f ?_;refine z_l ?_;refine z_m ?_;refine ZAB rfl rfl rfl rfl rfl (fun _=>A_tt c5 (ZAh rfl rfl)) ?_;refine z_m ?_;refine g_m ?_
 first|refine ZAW rfl rfl rfl rfl ?_|refine ZAB rfl rfl rfl rfl rfl (fun _=>A_tt c6 (ZAY rfl rfl)) ?_
 refine z_p ?_;refine z_m ?_;refine g_m ?_;refine g_m ?_
 first|refine ZAW rfl rfl rfl rfl ?_|refine ZAB rfl rfl rfl rfl rfl (fun _=>A_ix (k:=n) Und.h Tsz.h rfl rfl hn') ?_
 refine g_f ?_;refine g_l ?_;refine g_m ?_;refine g_m ?_
 first|refine ZAW rfl rfl rfl rfl ?_|refine ZAB rfl rfl rfl rfl rfl (fun _=>A_ix (k:=jf) Und.h Tsz.h rfl rfl hjf1) ?_
 refine g_f ?_;refine g_l ?_
 first|refine ZAW rfl rfl rfl rfl ?_|refine ZAB rfl rfl rfl rfl rfl (fun _=>A_tt c7 (ZAi rfl rfl)) ?_
 refine z_p ?_;refine ZAT (ZAC rfl) nb' ?_;refine zy ?_;exact⟨(n+1,at',(jf:Nat),(n:Nat)),(by show S.length-(n+1)<S.length-n;omega),rfl,rfl,hn',hJ2,rfl,rfl,rfl,rfl,rfl,rfl,rfl,rfl,rfl,trivial⟩
section
variable {P:Program}
theorem ZEC (d:Nat)(xs:Array Value)(w:World):∀(fs:List Field),(∀p∈fs.map (fun f=>(f.type,f.offset)),∃a,(part p.1 xs p.2).run P w=.ok a w/\(Op.equalIn d p.1 a a).run P w=.ok true w)->(Op.eqFields d xs xs fs).run P w=.ok true w
 | [],_=>rfl
 | f::fs,h=>by
  have ih:=ZEC d xs w fs fun p hp=>h p (List.mem_cons_of_mem _ hp);obtain⟨a,h1,h2⟩:=h (f.type,f.offset) List.mem_cons_self;simp only at h1 h2;simp only[Op.eqFields]
  split
  ·simp only[Sem.run_bind,h1,Result.andThen_ok,h2,Bool.not_true,Bool.false_eq_true,if_false]
   exact ih
  ·exact ih
theorem ZKh {t:TypeId}{dd:TypeDesc}{n:Nat}(hu:P.underlying t=some dd)(hd:ZCs dd=true)(hz:tsz P t=some n)(cs:Array Value)(o:Nat)(w:World):(part t cs o).run P w=.ok (.agg (cs.extract o (o+n))) w:=by
 simp only[part,Sem.run_bind,ZCf hu,Result.andThen_ok,hd,if_true,Dx.run_sizeOf hz,Sem.run_pure]
end
theorem ZQu (z:Twc)(d:Nat)(w:World):(Op.equalIn (d+3) 82 (.agg ⟨rowT z⟩) (.agg ⟨rowT z⟩)).run Tryz.prog w=.ok true w:=by
 have hs:∀(s:List UInt8) (d:Nat) (w:World),(Op.equalIn (d+1) 9 (str s) (str s)).run Tryz.prog w=.ok true w:=fun s d w=>by
  simp[Op.equalIn,run_underlying Tryz.underlying9,ZHs]
 have hi:∀(n:Int) (d:Nat) (w:World),(Op.equalIn (d+1) 3 (i64 n) (i64 n)).run Tryz.prog w=.ok true w:=fun n d w=>by
  simp[Op.equalIn,run_underlying Tryz.underlying3]
 have hk:∀(k:Key) (d:Nat) (w:World),(Op.equalIn (d+2) 51 (.agg ⟨rowK k⟩) (.agg ⟨rowK k⟩)).run Tryz.prog w=.ok true w:=fun k d w=>by
  rw[run_equalIn_struct _ _ _ _ _ (by kernel_rfl) (by kernel_rfl)];refine ZEC _ _ _ _ fun p hp=>?_;have e:((Tryz.prog.fieldsOf 51).toList.map fun f=>(f.type,f.offset))=[(9,0),(3,1)]:=by kernel_rfl
  rw[e] at hp;simp only[List.mem_cons,List.not_mem_nil,or_false] at hp
  rcases hp with rfl|rfl
  ·exact⟨str k.1,ZCv Tryz.underlying9 rfl rfl w,hs _ _ _⟩
  ·exact⟨i64 k.2,ZCv Tryz.underlying3 rfl rfl w,hi _ _ _⟩
 rw[run_equalIn_struct _ _ _ _ _ (by kernel_rfl) (by kernel_rfl)];refine ZEC _ _ _ _ fun p hp=>?_;have e:((Tryz.prog.fieldsOf 82).toList.map fun f=>(f.type,f.offset))=[(9,0),(3,1),(51,2),(51,4)]:=by kernel_rfl
 rw[e] at hp;simp only[List.mem_cons,List.not_mem_nil,or_false] at hp
 rcases hp with rfl|rfl|rfl|rfl
 ·exact⟨str z.1,ZCv Tryz.underlying9 rfl rfl w,hs _ _ _⟩
 ·exact⟨i64 z.2.1,ZCv Tryz.underlying3 rfl rfl w,hi _ _ _⟩
 ·exact⟨.agg ⟨rowK z.2.2.1⟩,ZKh (n:=2) Tryz.underlying51 rfl Tsz.h _ _ w,hk _ _ _⟩
 ·exact⟨.agg ⟨rowK z.2.2.2⟩,ZKh (n:=2) Tryz.underlying51 rfl Tsz.h _ _ w,hk _ _ _⟩
theorem twG:Tryz.prog.eqGuardType Tryz.prog.depth 82=false:=by kernel_rfl
theorem ZSW {m:Mem}{h:Heap}{d:Option Tmp}{ty:TypeId}{pos:String}{af:Array Edge}{gu:Option (Nat×Bool)}{tz:TypeId}{z:Twc}{x y:Operand}(hx:opk h m x=some (.agg ⟨rowT z⟩))(hy:opk h m y=some (.agg ⟨rowT z⟩)) :
  Aop Tryz.prog ⟨d,.binOp .neq 82 x y tz,ty,pos,af,gu⟩ m h (.bool false) h :=
 ZCp hx hy rfl rfl rfl fun w=>by
  simp only[Sem.run_bind,run_eqGuard_agg _ _ _ _ _ _ _ twG,Result.andThen_ok];rw[run_neq_struct];rw[ZQu z 9997 w];rfl
set_option maxHeartbeats 1000000 in
theorem ZQs {a a':Option Addr}{c c':Nat}{l:List Twc}{h:Heap}(h1:ZAs 6 (fun _ row x=>row=rowT x) h a l)(h2:ZAs 6 (fun _ row x=>row=rowT x) h a' l)(hlen:Len l):Sv Tryz.prog 46 [.slice a l.length c,.slice a' l.length c'] h (RetP fun v h'=>v=.bool true/\h'=h):=by
 refine ZAG Tryz.func46 rfl (by rw[Tryz.ntmps46];rfl) ?_;show Wc Tryz.prog ⟨46,26,none⟩ _ _ _ _ _;refine zy ?_;refine ZAD rfl rfl rfl rfl (A_ff (fun q=>q rfl) (ZA3 rfl rfl)) ?_;refine zy ?_;refine ZAQ (fun (j:Nat) m ds h'=>ds=[]/\h=h'/\j<=l.length/\AllK m [(0,.slice a l.length c),(1,.slice a' l.length c'),(5,i64 (j:Nat))]) (fun j=>l.length-j) 0 ?_ ?_
 ·exact⟨rfl,rfl,Nat.zero_le _,rfl,rfl,rfl,trivial⟩
 rintro j m ds h' ⟨rfl,rfl,hj,hall⟩;refine Wc.le ?_ (Le.kn hall);clear hall;refine zy ?_;refine ZAN rfl rfl rfl rfl (ZAY rfl rfl) (fun hjl=>?_) (fun hjl=>?_);rotate_left
 ·refine zy ?_
  exact ZAE (ZAF rfl ⟨rfl,rfl⟩)
 have hj':j<l.length:=by omega
 obtain⟨b,o,oa,rfl,row,hr,hx⟩:=h1 j hj';obtain⟨b',o',oa',rfl,row',hr',hx'⟩:=h2 j hj';have e1:row=rowT l[j]:=hx;have e2:row'=rowT l[j]:=hx';clear hx hx';generalize l[j]=x at *;subst e1;subst e2;refine zy ?_;refine ZAM hmix [0,0,3,7,0,0,48,112,255] [0,1,2,3,4,5,6,7,8] none [] (by kernel_rfl) (by kernel_rfl) ?_;refine z_m ?_;refine z_m ?_;refine ZAB rfl rfl rfl rfl rfl (fun _=>A_ix (k:=j) Und.h Tsz.h rfl rfl) ?_;refine z_r ?_;refine z_m ?_;refine z_m ?_;refine ZAB rfl rfl rfl rfl rfl (fun _=>A_ix (k:=j) Und.h Tsz.h rfl rfl) ?_;refine z_r ?_;refine ZAB rfl rfl rfl rfl rfl (fun _=>ZSW (z:=x) rfl rfl) ?_
 refine ZAT (ZAC rfl) nb' ?_;refine zy ?_;exact⟨j+1,(by show l.length-(j+1)<l.length-j;omega),rfl,rfl,hj',rfl,rfl,rfl,trivial⟩
theorem ZN2 (l:List WkR)(p:Str)(t:Int):(ZDN l p t).1.length<=l.length:=by
 unfold ZDN
 split
 ·exact Nat.zero_le _
 split
 ·exact Nat.zero_le _
 split
 ·exact Nat.zero_le _
 ·exact Nat.le_trans (ZS4 _ _ _) (ZCz l)
theorem ZNv (l:List WkR):(ZDQ l).1.length<=40000:=by
 unfold ZDQ
 split
 ·exact Nat.zero_le _
 ·rename_i hc
  have h1:=ZCm (Decidable.not_not.1 hc);have h2:(ZAe (mrgU ltW l)).length<=200:=Nat.le_trans (ZCz l) h1;exact ZLy (ZGn l) h2 (Nat.le_trans (ZBZ ZAJ _) (Nat.le_trans (ZD4 _) h2))
set_option maxHeartbeats 4000000 in
theorem ZIC {ad:Option Addr}{cap:Nat}{l:List WkR}{a b:Str}{t:Int}{h:Heap}(hR:SrcK rowW 6 h ad l)(hn:ad=none->l=[]/\cap=0)(hf:∀x∈l,x.Fit)(hlen:Len l)(hL:WkLib h)(hb:b.length<=281474976710656) :
  Sv Tryz.prog 13 [.slice ad l.length cap,.agg ⟨[str a,str b]⟩,i64 t] h (RetP fun v h'=>v=.bool true/\Ext h h'):=by
 refine ZAG Tryz.func13 rfl (by rw[Tryz.ntmps13];rfl) ?_;show Wc Tryz.prog ⟨13,85,none⟩ _ _ _ _ _;refine zy ?_;refine ZBO rfl rfl rfl fun h1 hE1 hW1 hg1 hn1=>?_;generalize h.nx=b3 at hg1 ⊢;refine zy ?_;refine ZAD rfl rfl rfl rfl (ZCU (k:=0) Und.h Tsz.h rfl rfl rfl (by decide)) ?_;refine zy ?_;refine ZAI rfl rfl rfl rfl rfl Bod.h rfl rfl (ZJR (k:=a) (t:=t) (hR.ext hE1) hn hf hlen (hL.ext hE1)) ?_;rintro _ h2 ⟨rfl,hE12⟩;have hE2:=hE1.trans hE12;have hg2:=hE12.get hg1;refine zy ?_;refine ZAD rfl rfl rfl rfl (ZCU (k:=0) Und.h Tsz.h rfl rfl rfl (by decide)) ?_;refine zy ?_;refine ZAI rfl rfl rfl rfl rfl Bod.h rfl rfl (ZMG (k:=a) (t:=t) ((hR.ext hE2).1) hf hlen) ?_
 rintro _ h3 ⟨rfl,hE23⟩;have hE3:=hE2.trans hE23;have hg3:=hE23.get hg2;generalize (ZD3 l a t).1=w1 at *;generalize (ZD3 l a t).2=w2 at *;refine zy ?_;refine ZAD rfl rfl rfl rfl (A_ff (fun q=>q rfl) (ZAi rfl rfl)) ?_;refine zy ?_;refine ZAD rfl rfl rfl rfl (A_ff (fun q=>q rfl) (ZA3 rfl rfl)) ?_;refine zy ?_;refine ZAD rfl rfl rfl rfl (ZCU (k:=1) Und.h Tsz.h rfl rfl rfl (by decide)) ?_;refine zy ?_;refine ZAI rfl rfl rfl rfl rfl Bod.h rfl rfl (ZQR (p:=b) (t:=t) (hR.ext hE3) hn hf hlen (hL.ext hE3) hb) ?_;rintro _ h4 ⟨⟨v1,rfl,hF1⟩,hE34⟩;have hsl:=ZN2 l b t;have hE4:=hE3.trans hE34;have hg4:=hE34.get hg3
 obtain⟨a1,rfl,-,hl1⟩:=ZAA.list (enc:=str) hF1;refine zy ?_;refine ZAD rfl rfl rfl rfl (ZCU (k:=1) Und.h Tsz.h rfl rfl rfl (by decide)) ?_;refine zy ?_;refine ZAI rfl rfl rfl rfl rfl Bod.h rfl rfl (ZK8 (p:=b) (t:=t) ((hR.ext hE4).1) hf hlen hb) ?_;rintro _ h5 ⟨⟨v2,rfl,hF2⟩,hE45⟩;obtain⟨a2,rfl,-,hl2⟩:=ZAA.list (enc:=str) hF2;have hE5:=hE4.trans hE45;have hlen':l.length<9223372036854775808:=hlen;generalize (ZDN l b t).1=P at *;generalize (ZDN l b t).2=e at *;refine zy ?_;refine ZAR rfl rfl rfl rfl rfl Bod.h rfl rfl (ZFZ (hl1.ext hE45) hl2 (show _<_ by omega)) ?_;refine zy ?_;refine ZAD rfl rfl rfl rfl (A_ff (fun q=>q rfl) (ZA3 rfl rfl)) ?_
 refine zy ?_;refine ZAI rfl rfl rfl rfl rfl Bod.h rfl rfl (ZQw (hR.ext hE5) hn hf hlen (hL.ext hE5)) ?_;rintro _ h6 ⟨⟨v3,rfl,hF3⟩,hE56⟩;have hE6:=hE5.trans hE56;obtain⟨a6,rfl,hS6,-⟩:=ZAA.rowsAt (enc:=rowT) (k:=6) (fun _=>rfl) hF3 rfl;refine zy ?_;refine ZAI rfl rfl rfl rfl rfl Bod.h rfl rfl (ZLe ((hR.ext hE6).1) hf hlen) ?_;rintro _ h7 ⟨⟨v4,rfl,hF4⟩,hE67⟩;have hE7:=hE6.trans hE67;obtain⟨a7,rfl,hS7,-⟩:=ZAA.rowsAt (enc:=rowT) (k:=6) (fun _=>rfl) hF4 rfl;have htl:=ZNv l;generalize (ZDQ l).1=Z at *;generalize (ZDQ l).2=e2 at *;refine zy ?_;refine ZAR rfl rfl rfl rfl rfl Bod.h rfl rfl (ZQs (ZAs.ext (fun hr _=>hr) hS6.1 hE67) hS7.1 (show _<_ by omega)) ?_
 refine zy ?_;refine ZAD rfl rfl rfl rfl (A_tt rfl (ZAh rfl rfl)) ?_;refine zy ?_;refine ZAV rfl rfl rfl rfl rfl Bod.h rfl rfl (ZNZ (hL.ext hE7)) fun h8 hE8=>?_;refine zy ?_;exact ZAE (ZAF rfl ⟨rfl,hE7.trans hE8⟩)
end Go.Dw
