/- M4: WorksSames. -/
import Derived.Test.YthlmgoefjmlndaaGreatDoorZG2
import Derived.Test.YthlmgoefjmlndaaGreatDoorZG23
import Derived.Test.YthlmgoefjmlndaaGreatDoorZG21
import Derived.Test.YthlmgoefjmlndaaGreatDoorZG17
import Derived.Test.YthlmgoefjmlndaaGreatDoorZG22
import Derived.Test.YthlmgoefjmlndaaGreatDoorZG18
set_option linter.unusedVariables false
set_option linter.unusedSimpArgs false
namespace Go.Dw
open Go Go.Dx Go.Proofs
set_option maxRecDepth 100000
def lnkA (x:WkR):Str:=if x.kind=1 then 35::x.a else x.a
def lnkP (x:WkR)(u v:Str):Prop:=(x.kind=1\/x.kind=2)/\((lnkA x=u/\x.b=v)\/(x.b=u/\lnkA x=v))
instance (x:WkR)(u v:Str):Decidable (lnkP x u v):=by unfold lnkP;infer_instance
def prvP (s:List WkR)(p:List Str):Prop:=p≠[]/\p.Nodup/\chnP (nxtW s) p
structure ZS7 (s:List WkR)(p:List Str)(i:Nat):Prop where
 nd:∀j k (hj:j<i) (hk:k<j) (h:j<p.length),p[k]'(Nat.lt_trans hk h)≠p[j]
 ch:∀j (h0:0<j) (hj:j<i) (h:j<p.length),p[j]∈nxtW s (p[j-1]'(by omega))
theorem ZS7.all {s:List WkR}{p:List Str}(h:ZS7 s p p.length)(h0:p≠[]):prvP s p:=by
 refine⟨h0,List.pairwise_iff_getElem.2 fun i j hi hj hij=>h.nd j i hj hij hj,fun i x y hx hy=>?_⟩;obtain⟨h1,rfl⟩:=List.getElem?_eq_some_iff.1 hx;obtain⟨h2,rfl⟩:=List.getElem?_eq_some_iff.1 hy;exact h.ch (i+1) (Nat.succ_pos _) h2 h2
noncomputable instance (s:List WkR)(p:List Str):Decidable (prvP s p):=Classical.propDecidable _
def fndP (s:List WkR)(k n:Nat)(u v:Str):Prop:=k=0\/∃x∈s.take n,lnkP x u v
noncomputable instance (s:List WkR)(k n:Nat)(u v:Str):Decidable (fndP s k n u v):=Classical.propDecidable _
end Go.Dw
namespace Go.Dw
open Go Go.Dx Go.Proofs
set_option maxRecDepth 100000
theorem ZTN {s:List WkR}:(ZHn s).length<=(nodW s).length/\∀w∈ZHn s,w.1.length<=(nodW s).length/\w.2.1.length<=(nodW s).length:=by
 have hs:(ZAO s).length<=(nodW s).length:=ZBJ ZAL _;refine⟨?_,fun w hw=>?_⟩
 ·unfold ZHn ZBm ZB2
  rw[List.length_map];have h1:=ZHl (((ZAO s).filter fun k=>!ZAo k).map (repW s));rw[List.length_map] at h1;have h2:=List.length_filter_le (fun k=>!ZAo k) (ZAO s);omega
 ·obtain⟨q,-,rfl⟩:=List.mem_map.1 (show w∈(ZB2 (repW s) (ZAO s)).map _ from hw)
  unfold ZA5;refine⟨Nat.le_trans (Nat.le_trans (List.length_filter_le _ _) (List.length_filter_le _ _)) hs,?_⟩;simp only[List.length_map];exact Nat.le_trans (Nat.le_trans (List.length_filter_le _ _) (List.length_filter_le _ _)) hs
structure PrOK (W:List WkO)(i k:Nat)(PR:List (Str×Nat)):Prop where
 fst:PR.map Prod.fst=(W.take i).flatMap (fun w=>w.1)++((W[i]?.map fun w=>w.1).getD []).take k
 at_:∀e∈PR,∃w,W[e.2]?=some w/\e.1∈w.1
structure NmOK (S:List WkR)(j:Nat)(N:List Str):Prop where
 nd:N.Nodup
 is:∀k,k∈N ↔ ∃x∈S.take j,x.kind=1/\x.a=k
theorem NmOK.skip {S:List WkR}{j:Nat}{N:List Str}{x:WkR}(h:NmOK S j N)(ht:S.take (j+1)=S.take j++[x])(hx:x.kind≠1):NmOK S (j+1) N:=⟨h.nd,fun k=>by
 rw[h.is,ht]
 constructor
 ·rintro⟨y,hy,q⟩;exact⟨y,List.mem_append_left _ hy,q⟩
 ·rintro⟨y,hy,q1,q2⟩
  rcases List.mem_append.1 hy with hy|hy
  ·exact⟨y,hy,q1,q2⟩
  ·rw[List.mem_singleton.1 hy] at q1;exact absurd q1 hx⟩
theorem NmOK.same {S:List WkR}{j:Nat}{N:List Str}{x:WkR}(h:NmOK S j N)(ht:S.take (j+1)=S.take j++[x])(hx:x.a∈N):NmOK S (j+1) N:=⟨h.nd,fun k=>by
 rw[ht]
 constructor
 ·intro hk
  obtain⟨y,hy,q⟩:=(h.is k).1 hk;exact⟨y,List.mem_append_left _ hy,q⟩
 ·rintro⟨y,hy,q1,q2⟩
  rcases List.mem_append.1 hy with hy|hy
  ·exact (h.is k).2 ⟨y,hy,q1,q2⟩
  ·rw[List.mem_singleton.1 hy] at q2;rw[<-q2];exact hx⟩
theorem NmOK.add {S:List WkR}{j:Nat}{N:List Str}{x:WkR}(h:NmOK S j N)(ht:S.take (j+1)=S.take j++[x])(h1:x.kind=1)(hx:x.a ∉ N):NmOK S (j+1) (N++[x.a]):=⟨by
 rw[List.nodup_append];exact⟨h.nd,by simp,fun a ha b hb e=>hx (by rw[List.mem_singleton] at hb;rw[<-hb,<-e];exact ha)⟩,fun k=>by
 rw[ht,List.mem_append,List.mem_singleton,h.is]
 constructor
 ·rintro (⟨y,hy,q⟩|rfl)
  ·exact⟨y,List.mem_append_left _ hy,q⟩
  ·exact⟨x,by simp,h1,rfl⟩
 ·rintro⟨y,hy,q1,q2⟩
  rcases List.mem_append.1 hy with hy|hy
  ·exact .inl ⟨y,hy,q1,q2⟩
  ·rw[List.mem_singleton.1 hy] at q2;exact .inr q2.symm⟩
theorem ZN7 {S:List WkR}(hg:∀x∈S,ZAy x=0):mrgU ltB (namN S)=(ZAO S).filter fun k=>!ZAo k :=
 (ZFu ZAL ((ZLj S).filter _) fun e=>by
  rw[List.mem_filter,ZFJ,ZQa hg];unfold ZFd ZAo;simp).symm
theorem ZQe {S:List WkR}{k:Str}{o:Option WkR}{x:WkR}(hd:0<=x.day):titT S k (titN o x)=if (titT S k o).2<x.day then (x.b,x.day) else titT S k o:=by
 cases o with
 | none =>
  show titT S k (some x)=if (-1:Int)<x.day then (x.b,x.day) else titT S k none
  rw[if_pos (by omega)];rfl
 | some y =>
  show titT S k (if y.day<x.day then some x else some y)=if y.day<x.day then _ else _
  split <;> rfl
set_option maxHeartbeats 8000000 in
theorem ZG4 {ad:Option Addr}{cap:Nat}{l:List WkR}{h:Heap}(hR:ZC1 h ad l)(hf:∀x∈l,x.Fit)(hlen:Len l) :
  Sv Tryz.prog 27 [.slice ad l.length cap] h (RetP fun v h'=>ZIv l v h'/\Ext h h'):=by
 refine ZCi fun hw=>?_;have hcl:=ZDq (l:=l)
 have hcg:(chkS l).2=0->∀x∈ZAk (mrgU ltW l),ZAy x=0:=fun hc=>by
  have h1:=ZDq hc;have h2:=ZEx (l:=l) (i:=0) (by unfold chkS at hc;rw[if_neg (by omega)] at hc;exact hc);exact fun x hx=>h2 x (ZEm hx)
 unfold ZIv;refine ZAG Tryz.func27 rfl (by rw[Tryz.ntmps27];rfl) ?_;show Wc Tryz.prog ⟨27,102,none⟩ _ _ _ _ _;refine zy ?_;refine ZAV rfl rfl rfl rfl rfl Bod.h rfl rfl (ZMG hR hf hlen) fun h1 hE1=>?_;refine zy ?_;refine ZAM rfl rfl rfl rfl (ZBZ rfl rfl) (fun hc=>?_) (fun hc=>?_)
 ·refine zy ?_
  exact ZAE (ZAF rfl ⟨.inl ⟨hc,rfl⟩,hE1⟩)
 have hc0:(chkS l).2=0:=Decidable.not_not.1 hc;replace hcg:=hcg hc0;replace hcl:=hcl hc0;have hsl:(ZAk (mrgU ltW l)).length<=l.length:=ZGu l;have hsf:∀x∈ZAk (mrgU ltW l),x.Fit:=fun x hx=>hf x (ZEm hx);refine zy ?_;refine ZAI rfl rfl rfl rfl rfl Bod.h rfl rfl (ZOh (hR.ext hE1) hf (by omega)) ?_;rintro _ h2 ⟨⟨a8,a4,rfl,hS8,-⟩,hE2⟩;generalize ZAk (mrgU ltW l)=S at *;generalize ZA6 (mrgU ltW l)=FK at *;have hnl:(nodW S).length<=1400:=Nat.le_trans (ZJK S) (by omega);have hne:=ZOe hcg;refine zy ?_;refine ZAI rfl rfl rfl rfl rfl Bod.h rfl rfl (ZLF hS8.1 (by omega)) ?_;rintro _ h3 ⟨hF3,hE3⟩;rw[ZN7 hcg] at hF3
 have hNn:∀k∈(ZAO S).filter (fun k=>!ZAo k),k∈nodW S/\ZAo k=false:=fun k hk=>by
  obtain⟨q1,q2⟩:=List.mem_filter.1 hk;exact⟨ZFJ.1 q1,by simpa using q2⟩
 have hNl:((ZAO S).filter fun k=>!ZAo k).length<=1400:=Nat.le_trans (List.length_filter_le _ _) (Nat.le_trans (ZBJ ZAL _) hnl);rw[<-ZQt];generalize (ZAO S).filter (fun k=>!ZAo k)=N at *;obtain⟨a6,rfl,-,hL3⟩:=ZAA.list (enc:=str) hF3;have hE13:=hE1.trans (hE2.trans hE3);have hS3:ZC1 h3 a8 S:=ZBH.ext (fun hr _=>hr) hS8.1 hE3;refine ZBY fun hw3=>?_;clear hF3 hS8 hE1 hE2 hE3 hf hR;refine zy ?_
 refine ZAQ (fun (st:Nat×Value×Value×List WkM) m ds h'=>ds=[]/\Ext h3 h'/\st.1<=N.length/\Own h3 h' (slI h3 st.2.2.1 9 1 (((refW S (N.take st.1)).flatMap fun w=>w.1).map str) ((refW S (N.take st.1)).flatMap fun w=>w.1).length::topM h3 st.2.1 st.2.2.2::st.2.2.2.flatMap (slM h3))/\st.2.2.2.map spM=refW S (N.take st.1) ∧
   AllK m [(0,.slice a8 S.length S.length),(6,.slice a6 N.length N.length),(7,st.2.1),(8,st.2.2.1),(9,i64 st.1)]) (fun st=>N.length-st.1) (0,.slice none 0 0,.slice none 0 0,[]) ?_ ?_
 ·exact⟨rfl,Ext.refl _,Nat.zero_le _,((Own.nil h3 h3).nilSl _ _).nilSl _ _,rfl,rfl,rfl,rfl,rfl,rfl,trivial⟩
 rintro⟨i,v7,v8,A⟩ m ds h4 ⟨rfl,hE4,hi,hO4,hA,hall⟩;simp only at hi hO4 hA hall;refine Wc.le ?_ (Le.kn hall);clear hall;refine zy ?_;refine ZAM rfl rfl rfl rfl (ZAY rfl rfl) (fun hil=>?_) (fun hil=>?_);rotate_left
 ·have:i=N.length:=by omega
  subst this;rw[List.take_length] at hA;refine zy ?_;refine ZAE (ZAF rfl ⟨.inr ⟨hc0,_,rfl,?_⟩,hE13.trans hE4⟩);rw[<-hA];exact ZMr hO4.tail
 have hi':i<N.length:=by omega
 have htk:N.take (i+1)=N.take i++[N[i]]:=by rw[List.take_add_one,List.getElem?_eq_getElem hi'];rfl
 obtain⟨hkn,hkh⟩:=hNn _ (List.getElem_mem hi');have hsn:=ZP6 S (N.take i) N[i];rw[<-htk] at hsn;obtain⟨b6,o6,oa6,rfl,hc6⟩:=hL3 i hi';have hhas:=ZRX (p:=N.take i) hkn hkh;have hDl:=ZN3 S (N.take i);have hAl:A.length<=1400:=by
  have h1:=congrArg List.length hA;have h2:=ZMU S (N.take i);rw[List.length_map] at h1;rw[List.length_take] at h2;omega
 have hDl':((refW S (N.take i)).flatMap fun w=>w.1).length<=1400*1400:=Nat.le_trans hDl (Nat.mul_le_mul (by rw[List.length_take];omega) hnl);have hwn:=ZRZ (tit:=titB (repW S) (ofK [4] S)) hkn;have hwi:=ZRl (tit:=titB (repW S) (ofK [4] S)) hkn
 have hxn:∀x∈S,x.kind=4->(x.a∈nmQ (ZCe S N[i]) ↔ repW S x.a=repW S N[i]):=fun x hx h4=>by
  have hxa:x.a∈nodW S:=by
   unfold nodW;exact List.mem_append_right _ (List.mem_map.2 ⟨x,ZCt.2 ⟨hx,by simp[h4]⟩,rfl⟩)
  rw[<-hwn,ZL8];exact⟨fun q=>q.2.2,fun q=>⟨hxa,ZD3 (ZCE (hcg x hx)).2.1,q⟩⟩
 generalize N[i]=k at *;clear hL3 hDl;generalize hDg:(refW S (N.take i)).flatMap (fun w=>w.1)=D at *;have hc6':=hE4.cell hc6;obtain⟨av8,hv8,-,hls8⟩:=ZAA.list (enc:=str) (hO4.p1:ZAA h3 h4 v8 9 1 (D.map str) D.length);subst hv8;have hhs:=ZLm (cap:=D.length) (k:=k) hls8 (show _<_ by omega);refine zy ?_;refine ZAC rfl rfl rfl rfl (A_ix Und.h Tsz.h rfl rfl) ?_;refine zy ?_
 by_cases hq:repW S k∈ZEO ((N.take i).map (repW S))
 ·rw[decide_eq_true (hhas.2 hq)] at hhs
  rw[if_pos hq] at hsn;refine ZAT rfl rfl rfl rfl rfl Bod.h rfl rfl hhs ?_;refine zy ?_;refine⟨(i+1,v7,_,A),(by show N.length-(i+1)<N.length-i;omega),rfl,hE4,hi',?_,?_,rfl,rfl,rfl,rfl,rfl,trivial⟩
  ·simp only
   rw[hsn,hDg];exact hO4
  ·simp only
   rw[hsn];exact hA
 rw[decide_eq_false (fun q=>hq (hhas.1 q))] at hhs;rw[if_neg hq] at hsn;refine ZAT rfl rfl rfl rfl rfl Bod.h rfl rfl hhs ?_;refine zy ?_;refine ZBY fun hw4=>?_;refine ZCA rfl rfl Zr.h fun h5 hE45 hW5 hg5 hn5=>?_;have hO5:=hO4.newCe hw4 hE4.2.1 hE45 hg5 (Nat.le_refl _);have hE5:=hE4.trans hE45;generalize h4.nx=b10 at hO5 hg5 ⊢;have hc6'':=hE5.cell hc6;clear hO4 hls8 hhs hc6';refine zy ?_;refine ZAC rfl rfl rfl rfl (A_ix Und.h Tsz.h rfl rfl) ?_;refine zy ?_;refine ZAI rfl rfl rfl rfl rfl Bod.h rfl rfl (ZSl (ZBH.ext (fun hr _=>hr) hS3 hE5) hsf (by omega) hkn hkh hne (by omega)) ?_;rintro _ h6 ⟨⟨v1,v2,rfl,hI6⟩,hE56⟩
 have hO6:=hO5.join hW5 hE5.2.1 hE56 hI6;have hE6:=hE5.trans hE56;have hcl2:(ZCe S k).length<=1400:=by
  unfold ZCe;rw[List.length_map];exact Nat.le_trans (ZMM hkn _) hnl
 have hl1:=ZPC (ZCe S k);have hl2:=ZQK (ZCe S k);have hwk:(nmQ (ZCe S k),imQ (ZCe S k),titB (repW S) (ofK [4] S) (repW S k))=ZA5 (repW S) (titB (repW S) (ofK [4] S)) (ZAO S) (ZAO S) (repW S k):=Prod.ext hwn.symm (Prod.ext hwi.symm rfl);rw[<-hwk] at hsn;generalize nmQ (ZCe S k)=Nm at *;generalize imQ (ZCe S k)=Im at *;clear hwn hwi hwk;have hO6a:Own h3 h6 (slI h3 v1 9 1 (Nm.map str) Nm.length::slI h5 v2 9 1 (Im.map str) Im.length::_):=hO6.as (fun hp=>ZAA.base hp hE5.2.1) (fun c hc=>hc);have hO6b:Own h3 h6 (slI h3 v2 9 1 (Im.map str) Im.length::slI h3 v1 9 1 (Nm.map str) Nm.length::_):=hO6a.up2.as (fun hp=>ZAA.base hp hE5.2.1) (fun c hc=>hc)
 obtain⟨an,hv1,-,hln⟩:=ZAA.list (enc:=str) (hO6b.p2:ZAA h3 h6 v1 9 1 (Nm.map str) Nm.length);obtain⟨ai,hv2,-,-⟩:=ZAA.list (enc:=str) (hO6b.p1:ZAA h3 h6 v2 9 1 (Im.map str) Im.length);subst hv1;subst hv2;clear hO6 hO6a hI6 hO5;refine zy ?_;refine ZHH hw3 hE6 rfl Tsz.h rfl rfl hO6b.up3 rfl rfl rfl fun h7 hW7 hO7 hE7=>?_;refine zy ?_;refine ZHH hw3 hE7 rfl Tsz.h rfl rfl hO7 rfl rfl rfl fun h8 hW8 hO8 hE8=>?_;clear hO6b hO7 hg5 hn5 hW5 hE45 hE56 hln hE6 hE7 hW7;have htt:=fun j (hj:j<S.length)=>ZRc hj (repW S k);have htS:titB (repW S) (ofK [4] S) (repW S k)=(titT S k (titS (repW S) (ofK [4] (S.take S.length)) (repW S k))).1:=by rw[List.take_length];rfl
 rw[htS] at hsn;refine zy ?_
 refine ZAQ (fun (j:Nat) m ds h'=>ds=[]/\Ext h3 h'/\j<=S.length/\Own h3 h' (ceI b10 [.slice an Nm.length Nm.length,.slice ai Im.length Im.length,str (titT S k (titS (repW S) (ofK [4] (S.take j)) (repW S k))).1] 41 false::slI h3 (.slice ai Im.length Im.length) 9 1 (Im.map str) Im.length::slI h3 (.slice an Nm.length Nm.length) 9 1 (Nm.map str) Nm.length::slI h3 (.slice av8 D.length D.length) 9 1 (D.map str) D.length::topM h3 v7 A::A.flatMap (slM h3)) ∧
   AllK m [(0,.slice a8 S.length S.length),(6,.slice (some ⟨b6,o6,oa6⟩) N.length N.length),(7,v7),(8,.slice av8 D.length D.length),(9,i64 i),(10,.pointer (some ⟨b10,0,none⟩)),(11,i64 (titT S k (titS (repW S) (ofK [4] (S.take j)) (repW S k))).2),(12,i64 (j:Nat))]) (fun j=>S.length-j) 0 ?_ ?_
 ·exact⟨rfl,hE8,Nat.zero_le _,hO8,rfl,rfl,rfl,rfl,rfl,rfl,rfl,rfl,trivial⟩
 clear hO8 hE8 hW8;rintro j m ds h8 ⟨rfl,hE8,hj,hO8,hall⟩;refine Wc.le ?_ (Le.kn hall);clear hall;have hg8:h8.get b10=some (.cells _ 41 false):=hO8.p1;have hFn8:ZAA h3 h8 (.slice an Nm.length Nm.length) 9 1 (Nm.map str) Nm.length:=hO8.p3;refine zy ?_;refine ZAM rfl rfl rfl rfl (ZAY rfl rfl) (fun hjl=>?_) (fun hjl=>?_);rotate_left
 ·have:j=S.length:=by omega
  subst this;generalize titS (repW S) (ofK [4] (S.take S.length)) (repW S k)=o at *;generalize (titT S k o).1=ti at *;generalize (titT S k o).2=td at *;refine zy ?_;refine ZA0 (k:=Nm.length) (l:=Nm.map str) hw3 hE8 rfl rfl rfl rfl rfl Und.h inferInstance rfl rfl hO8.up4 (hFn8.src (dd:=.slice 9) Und.h (by intro k;simp)) (by rw[List.length_map,Nat.mul_one]) (ZGe _) (by omega) (by omega) fun v8' h9 hW9 hO9 hE9=>?_;have hg9:h9.get b10=some (.cells _ 41 false):=hO9.p2;refine zy ?_;refine ZBW (cs:=[.slice an Nm.length Nm.length,.slice ai Im.length Im.length,str ti]) rfl rfl Und.h Tsz.h Zr.h rfl rfl rfl rfl rfl fun h10 hE910 hW10 hg10 hn10=>?_
  have hO10:=(hO9.pick 4 rfl).ext hE910;refine zy ?_;refine ZA0 (k:=1) (l:=[.slice an Nm.length Nm.length,.slice ai Im.length Im.length,str ti]) hw3 (hE9.trans hE910) rfl rfl rfl rfl rfl Und.h inferInstance rfl rfl hO10 (ZBD Und.h (by intro k;simp) (ZAX hg10 rfl)) rfl rfl (by omega) (by omega) fun v7' h11 hW11 hO11 hE11=>?_;refine zy ?_;refine⟨(i+1,v7',v8',A++[(.slice an Nm.length Nm.length,Nm,.slice ai Im.length Im.length,Im,ti)]),(by show N.length-(i+1)<N.length-i;omega),rfl,hE11,hi',?_,?_,rfl,rfl,rfl,rfl,rfl,trivial⟩
  ·simp only
   have e1:∀a,(A++[a]).flatMap (slM h3)=A.flatMap (slM h3)++[nmI h3 a,itI' h3 a]:=fun a=>by rw[List.flatMap_append,List.flatMap_singleton];rfl
   have e2:∀a,topM h3 v7' (A++[a])=slI h3 v7' 41 3 (A.flatMap rowM++rowM a) (A.length+1):=fun a=>by
    unfold topM;rw[List.flatMap_append,List.flatMap_singleton,List.length_append];rfl
   rw[hsn,List.flatMap_append,hDg,List.flatMap_singleton,List.map_append,List.length_append,e1,e2];exact (hO11.up2.sub (.cons_cons _ (.cons_cons _ (.cons _ (List.Sublist.refl _))))).perm (.cons _ (.cons _ ((List.Perm.swap _ _ _).trans (List.perm_append_comm (l₁:=[_,_])))))
  ·simp only
   rw[hsn,List.map_append,hA];rfl
 have hj':j<S.length:=by omega
 replace htt:=htt j hj';replace hxn:=hxn _ (List.getElem_mem hj');have hday:=(ZP8 (hcg _ (List.getElem_mem hj'))).1;obtain⟨b,o,oa,rfl,row,hrow0,hx⟩:=hS3 j hj';have ex:row=rowW S[j]:=hx;clear hx;generalize S[j]=x at *;subst ex;have k2:∀{h':Heap},Ext h3 h'->ZAa h' b (o+j*6+2)=some (i64 x.day):=fun hE=>ZAP (k:=2) (hE.row hrow0) rfl;have k3:ZAa h8 b (o+j*6+3)=some (i64 x.kind):=ZAP (k:=3) (hE8.row hrow0) rfl;have k4:ZAa h8 b (o+j*6+4)=some (str x.a):=ZAP (k:=4) (hE8.row hrow0) rfl;have k5:ZAa h8 b (o+j*6+5)=some (str x.b):=ZAP (k:=5) (hE8.row hrow0) rfl;have k2a:=k2 hE8;have ca:ZAa h8 b10 0=some (.slice an Nm.length Nm.length):=ZAh hg8 rfl
 have hst:=ZQe (S:=S) (k:=k) (o:=titS (repW S) (ofK [4] (S.take j)) (repW S k)) hday;obtain⟨an',hv1,-,hln⟩:=ZAA.list (enc:=str) hFn8;simp only[Value.slice.injEq,and_true] at hv1;subst hv1;have hhs:=ZLm (cap:=Nm.length) (k:=x.a) hln (show _<_ by omega);generalize ho2:titS (repW S) (ofK [4] (S.take (j+1))) (repW S k)=o2 at *;generalize titS (repW S) (ofK [4] (S.take j)) (repW S k)=o1 at *;refine zy ?_
 by_cases c1:x.kind=4
 rotate_left
 ·rw[if_neg (fun q=>c1 q.1)] at htt
  subst htt;refine ZAS hmix [0,0,3,7,15,31,63,127,255,127,127,1663,3711,7807,16383,32767,65535,131071,131071,524287,1048575,2097151,131071,8388607,16777215] [0,1,2,3,4,5,6,7,8,9,10,11,12,13] (some 14) [([15,16,17,18,19,20,21,22,23,24],none)] (by kernel_rfl) (by kernel_rfl) ?_;refine z_m ?_;refine z_m ?_;refine ZAD rfl rfl rfl rfl rfl (fun _=>A_ix (k:=j) Und.h Tsz.h rfl rfl) ?_;refine z_f ?_;refine z_l ?_;refine ZAD rfl rfl rfl rfl rfl (fun _=>A_ff c1 (ZAb rfl rfl)) ?_;refine z_m ?_;refine g_f ?_;refine g_l ?_;refine g_m ?_;refine g_m ?_;refine g_i ?_;refine g_f ?_;refine g_l ?_;refine ZAK [0,1,2,3,4,5,6,7,8,9,10,11,12,13] (by kernel_rfl) rfl (ZAB rfl) rfl nb (dF (dF (dF (dF (dF (dF (dF (dF (dF (dF (dF (dF (dF (dF nF)))))))))))))) (ZBp rfl ?_)
  refine z_p ?_;refine z_m ?_;refine g_m ?_;refine g_m ?_;refine g_i ?_;refine g_f ?_;refine g_l ?_;refine g_m ?_;refine z_o ?_;refine z_p ?_;refine ZAU (ZAB rfl) nb' ?_;refine zy ?_;exact⟨j+1,(by show S.length-(j+1)<S.length-j;omega),rfl,hE8,hj',(by rw[ho2];exact hO8),rfl,rfl,rfl,rfl,rfl,rfl,(by rw[ho2];rfl),rfl,trivial⟩
 replace hxn:=hxn c1
 by_cases hm:x.a∈Nm
 rotate_left
 ·rw[if_neg (fun q=>hm (hxn.2 q.2))] at htt
  subst htt;rw[decide_eq_false hm] at hhs;refine ZAS hmix [0,0,3,7,15,31,63,127,255,127,127,1663,3711,7807,16383,32767,65535,131071,131071,524287,1048575,2097151,131071,8388607,16777215] [0,1,2,3,4,5,6,7,8,9,10,11,12,13] (some 14) [([15,16,17,18,19,20,21,22,23,24],none)] (by kernel_rfl) (by kernel_rfl) ?_;refine z_m ?_;refine z_m ?_;refine ZAD rfl rfl rfl rfl rfl (fun _=>A_ix (k:=j) Und.h Tsz.h rfl rfl) ?_;refine z_f ?_;refine z_l ?_;refine ZAD rfl rfl rfl rfl rfl (fun _=>A_tt c1 (ZAb rfl rfl)) ?_;refine z_m ?_;refine g_f ?_;refine g_l ?_;refine g_m ?_;refine g_m ?_
  first|refine ZAe rfl rfl rfl rfl ?_|refine ZAD rfl rfl rfl rfl rfl (fun _=>A_ix (k:=j) Und.h Tsz.h rfl rfl) ?_
  refine g_f ?_;refine g_l ?_;refine ZAK [0,1,2,3,4,5,6,7,8,9,10,11,12,13] (by kernel_rfl) rfl (ZAB rfl) rfl nb (dF (dF (dF (dF (dF (dF (dF (dF (dF (dF (dF (dF (dF (dF nF)))))))))))))) (ZAg rfl rfl rfl rfl rfl Bod.h hhs ?_);refine z_p ?_;refine z_m ?_;refine g_m ?_;refine g_m ?_;refine g_i ?_;refine g_f ?_;refine g_l ?_;refine g_m ?_;refine z_o ?_;refine z_p ?_;refine ZAU (ZAB rfl) nb' ?_;refine zy ?_;exact⟨j+1,(by show S.length-(j+1)<S.length-j;omega),rfl,hE8,hj',(by rw[ho2];exact hO8),rfl,rfl,rfl,rfl,rfl,rfl,(by rw[ho2];rfl),rfl,trivial⟩
 rw[if_pos ⟨c1,hxn.1 hm⟩] at htt;rw[decide_eq_true hm] at hhs;rw[<-htt] at hst
 by_cases hd:(titT S k o1).2<x.day
 rotate_left
 ·rw[if_neg hd] at hst
  refine ZAS hmix [0,0,3,7,15,31,63,127,255,127,127,1663,3711,7807,16383,32767,65535,131071,131071,524287,1048575,2097151,131071,8388607,16777215] [0,1,2,3,4,5,6,7,8,9,10,11,12,13] (some 14) [([15,16,17,18,19,20,21,22,23,24],none)] (by kernel_rfl) (by kernel_rfl) ?_;refine z_m ?_;refine z_m ?_;refine ZAD rfl rfl rfl rfl rfl (fun _=>A_ix (k:=j) Und.h Tsz.h rfl rfl) ?_;refine z_f ?_;refine z_l ?_;refine ZAD rfl rfl rfl rfl rfl (fun _=>A_tt c1 (ZAb rfl rfl)) ?_;refine z_m ?_;refine g_f ?_;refine g_l ?_;refine g_m ?_;refine g_m ?_
  first|refine ZAe rfl rfl rfl rfl ?_|refine ZAD rfl rfl rfl rfl rfl (fun _=>A_ix (k:=j) Und.h Tsz.h rfl rfl) ?_
  refine g_f ?_;refine g_l ?_;refine ZAK [0,1,2,3,4,5,6,7,8,9,10,11,12,13] (by kernel_rfl) rfl (ZAB rfl) rfl nb (dF (dF (dF (dF (dF (dF (dF (dF (dF (dF (dF (dF (dF (dF nF)))))))))))))) (ZAg rfl rfl rfl rfl rfl Bod.h hhs ?_);refine z_p ?_;refine z_m ?_;refine g_m ?_;refine g_m ?_
  first|refine ZAe rfl rfl rfl rfl ?_|refine ZAD rfl rfl rfl rfl rfl (fun _=>A_ix (k:=j) Und.h Tsz.h rfl rfl) ?_
  refine g_f ?_;refine g_l ?_;refine g_m ?_
  first|refine ZAe rfl rfl rfl rfl ?_|refine ZAD rfl rfl rfl rfl rfl (fun _=>A_ff hd (ZCN rfl rfl)) ?_
  refine z_p ?_;refine ZAU (ZAB rfl) nb' ?_;refine zy ?_;exact⟨j+1,(by show S.length-(j+1)<S.length-j;omega),rfl,hE8,hj',(by rw[ho2,hst];exact hO8),rfl,rfl,rfl,rfl,rfl,rfl,(by rw[ho2,hst];rfl),rfl,trivial⟩
 rw[if_pos hd] at hst;refine ZAS hmix [0,0,3,7,15,31,63,127,255,127,127,1663,3711,7807,16383,32767,65535,131071,131071,524287,1048575,2097151,131071,8388607,16777215] [0,1,2,3,4,5,6,7,8,9,10,11,12,13] (some 14) [([15,16,17,18,19,20,21,22,23,24],none)] (by kernel_rfl) (by kernel_rfl) ?_;refine z_m ?_;refine z_m ?_;refine ZAD rfl rfl rfl rfl rfl (fun _=>A_ix (k:=j) Und.h Tsz.h rfl rfl) ?_;refine z_f ?_;refine z_l ?_;refine ZAD rfl rfl rfl rfl rfl (fun _=>A_tt c1 (ZAb rfl rfl)) ?_;refine z_m ?_;refine g_f ?_;refine g_l ?_;refine g_m ?_;refine g_m ?_
 first|refine ZAe rfl rfl rfl rfl ?_|refine ZAD rfl rfl rfl rfl rfl (fun _=>A_ix (k:=j) Und.h Tsz.h rfl rfl) ?_
 refine g_f ?_;refine g_l ?_;refine ZAK [0,1,2,3,4,5,6,7,8,9,10,11,12,13] (by kernel_rfl) rfl (ZAB rfl) rfl nb (dF (dF (dF (dF (dF (dF (dF (dF (dF (dF (dF (dF (dF (dF nF)))))))))))))) (ZAg rfl rfl rfl rfl rfl Bod.h hhs ?_);refine z_p ?_;refine z_m ?_;refine g_m ?_;refine g_m ?_
 first|refine ZAe rfl rfl rfl rfl ?_|refine ZAD rfl rfl rfl rfl rfl (fun _=>A_ix (k:=j) Und.h Tsz.h rfl rfl) ?_
 refine g_f ?_;refine g_l ?_;refine g_m ?_
 first|refine ZAe rfl rfl rfl rfl ?_|refine ZAD rfl rfl rfl rfl rfl (fun _=>A_tt hd (ZCN rfl rfl)) ?_
 refine z_p ?_;refine ZAU (ZAB rfl) nb' ?_;refine zy ?_;refine ZAS hmix [0,0,3,7,15,0,0,96,224,480,31,1055,4095] [0,1,2,3,4,5,6,7,8,9,10] (some 11) [([],(some 12)),([],none)] (by kernel_rfl) (by kernel_rfl) ?_;refine z_m ?_;refine z_m ?_;refine ZAD rfl rfl rfl rfl rfl (fun _=>A_ix (k:=j) Und.h Tsz.h rfl rfl) ?_;refine z_f ?_;refine z_l ?_;refine z_m ?_;refine z_m ?_;refine ZAD rfl rfl rfl rfl rfl (fun _=>A_ix (k:=j) Und.h Tsz.h rfl rfl) ?_;refine z_f ?_;refine z_l ?_;refine z_f ?_;refine ZAK [0,1,2,3,4,10] (by kernel_rfl) rfl (ZAB rfl) rfl nb (dF (kF (kF (kF (kF (kF (dF (dF (dF (dF (dF nF))))))))))) (ZPK rfl hw3 hE8 rfl Tsz.h rfl rfl hO8 rfl rfl rfl (fun h9 hO9 hE9=>?_))
 have k2b:=k2 hE9;refine ZAK [0,1,2,3,4,5,6,7,8,9,10,11] (by kernel_rfl) rfl (by refine t_l 9 ?_;refine t_f 8 ?_;refine ZAm (i:=7) rfl rfl rfl rfl rfl (fun _=>A_ix (k:=j) Und.h Tsz.h rfl rfl) rfl ?_;refine t_m 6 ?_;refine t_m 5 ?_;exact ZAB rfl) rfl nb (dF (dF (dF (dF (dF nF))))) (ZDR rfl rfl (ZA9 rfl) ?_);refine ZAU (ZAB rfl) nb' ?_;refine zy ?_;exact⟨j+1,(by show S.length-(j+1)<S.length-j;omega),rfl,hE9,hj',(by rw[ho2,hst];exact hO9),rfl,rfl,rfl,rfl,rfl,rfl,(by rw[ho2,hst];rfl),rfl,trivial⟩
set_option maxHeartbeats 1000000 in
theorem ZJO {ad:Option Addr}{cap:Nat}{l:List WkR}{h:Heap}(hR:SrcK rowW 6 h ad l)(hn:ad=none->l=[]/\cap=0)(hf:∀x∈l,x.Fit)(hlen:Len l)(hL:WkLib h) :
  Sv Tryz.prog 5 [.slice ad l.length cap] h (RetP fun v h'=>v=.bool true/\Ext h h'):=by
 refine ZAG Tryz.func5 rfl (by rw[Tryz.ntmps5];rfl) ?_;show Wc Tryz.prog ⟨5,28,none⟩ _ _ _ _ _;refine zy ?_;refine ZAI rfl rfl rfl rfl rfl Bod.h rfl rfl (ZMb hR hn hf hlen hL) ?_;rintro _ h1 ⟨hW1,hE1⟩
 rcases hW1 with ⟨hc,rfl⟩|⟨hc,va,rfl,hA⟩
 ·refine zy ?_
  refine ZAI rfl rfl rfl rfl rfl Bod.h rfl rfl (ZG4 ((hR.ext hE1).1) hf hlen) ?_;rintro _ h2 ⟨⟨-,rfl⟩|⟨hc2,-⟩,hE12⟩
  ·have hE2:=hE1.trans hE12
   have hno:ZCQ h2 (.slice none 0 0) []:=⟨none,0,rfl,fun i hi=>absurd hi (Nat.not_lt_zero _)⟩;refine zy ?_;refine ZAT rfl rfl rfl rfl rfl Bod.h rfl rfl (ZFn hno hno (by decide) (fun _ h=>nomatch h)) ?_;refine zy ?_;refine ZAC rfl rfl rfl rfl (A_tt rfl (ZAb rfl rfl)) ?_;refine zy ?_;refine ZAV rfl rfl rfl rfl rfl Bod.h rfl rfl (ZIW (hL.ext hE2)) fun h3 hE3=>?_;refine zy ?_;exact ZAE (ZAF rfl ⟨rfl,hE2.trans hE3⟩)
  ·exact absurd hc2 hc
 ·refine zy ?_
  refine ZAI rfl rfl rfl rfl rfl Bod.h rfl rfl (ZG4 ((hR.ext hE1).1) hf hlen) ?_;rintro _ h2 ⟨⟨hc2,-⟩|⟨-,vb,rfl,hB⟩,hE12⟩
  ·exact absurd hc hc2
  ·have hE2:=hE1.trans hE12
   obtain⟨q1,q2⟩:=ZTN (s:=ZAk (mrgU ltW l));have q3:=ZJK (ZAk (mrgU ltW l));have q4:=ZGu l;have q5:=ZDq hc;refine zy ?_
   refine ZAT rfl rfl rfl rfl rfl Bod.h rfl rfl (ZFn (hA.ext hE12) hB (show _<_ by omega) (fun w hw=>by
    have:=q2 w hw;exact⟨show _<_ by omega,show _<_ by omega⟩)) ?_
   refine zy ?_;refine ZAC rfl rfl rfl rfl (A_tt rfl (ZAb rfl rfl)) ?_;refine zy ?_;refine ZAV rfl rfl rfl rfl rfl Bod.h rfl rfl (ZIW (hL.ext hE2)) fun h3 hE3=>?_;refine zy ?_;exact ZAE (ZAF rfl ⟨rfl,hE2.trans hE3⟩)
end Go.Dw
