/- M4: WorksSames. -/
import Derived.Test.YthlmgoefjmlndaaGreatDoorRG2
import Derived.Test.YthlmgoefjmlndaaGreatDoorRG24
import Derived.Test.YthlmgoefjmlndaaGreatDoorRG23
import Derived.Test.YthlmgoefjmlndaaGreatDoorRG17
import Derived.Test.YthlmgoefjmlndaaGreatDoorRG21
set_option linter.unusedVariables false
set_option linter.unusedSimpArgs false
namespace Go.Dw
open Go Go.Dx Go.Proofs
set_option maxRecDepth 100000
theorem ZHf {s:List WkR}{a b:Str}(ha:a∈nodW s):(ZAs (nxtW s) a b (nodW s).length).length<=(nodW s).length+1:=by
 unfold ZAs
 split
 ·rw[List.length_reverse]
  have:=ZKe (bfsQ (nxtW s) a (nodW s).length) ((bfsQ (nxtW s) a (nodW s).length).length+1) b;have:=ZMT ha (nodW s).length;omega
 ·exact Nat.zero_le _
theorem ZGn {s:List WkR}{a:Str}(h:ZCM s a=true):a∈nodW s:=by
 unfold ZCM at h;rw[Bool.and_eq_true] at h;exact of_decide_eq_true h.1
theorem ZRp {l:List WkR}{a b:Str}:(ZBl l a b).1.length<=10001:=by
 unfold ZBl
 split
 ·exact Nat.zero_le _
 ·rename_i hc
  have hl:=ZCB (Decidable.not_not.1 hc);have h2:(ZAJ (mrgU ltW l)).length<=l.length:=ZCL l;have h3:=ZFw (ZAJ (mrgU ltW l))
  split
  ·exact Nat.zero_le _
  ·rename_i hn
   have hna:ZCM (ZAJ (mrgU ltW l)) a=true:=by
    cases q:ZCM (ZAJ (mrgU ltW l)) a with
    | true=>rfl
    | false=>exact absurd (.inl q) hn
   have:=ZHf (b:=b) (ZGn hna)
   show (ZAs (nxtW (ZAJ (mrgU ltW l))) a b (nodW (ZAJ (mrgU ltW l))).length).length<=10001
   omega
theorem ZST {S L:List WkR}(hL:∀x∈L,x∈S)(hS:S.length<=200):∀c∈clsL S L,c.2.length<=10001:=fun c hc=>by
 unfold clsL at hc;obtain⟨x,hx,hc⟩:=List.mem_flatMap.1 hc
 split at hc
 ·rename_i h3
  unfold clF at hc
  split at hc
  ·exact absurd hc List.not_mem_nil
  ·rw[List.mem_singleton.1 hc]
   have:=ZHf (b:=x.b) (ZJT (hL x hx) h3);have h3:=ZFw S
   show (ZAs (nxtW S) x.a x.b (nodW S).length).length<=10001
   omega
 ·exact absurd hc List.not_mem_nil
def lnkA (x:WkR):Str:=if x.kind=1 then 35::x.a else x.a
def lnkP (x:WkR)(u v:Str):Prop:=(x.kind=1\/x.kind=2)/\((lnkA x=u/\x.b=v)\/(x.b=u/\lnkA x=v))
instance (x:WkR)(u v:Str):Decidable (lnkP x u v):=by unfold lnkP;infer_instance
theorem ZOZ {s:List WkR}{u v:Str}:v∈nxtW s u ↔ ∃x∈s,lnkP x u v:=by
 rw[ZEP]
 have key:∀u v:Str,(u,v)∈edgW s ↔ ∃x∈s,(x.kind=1\/x.kind=2)/\lnkA x=u/\x.b=v:=fun u v=>by
  unfold edgW;rw[List.mem_append,List.mem_map,List.mem_map]
  constructor
  ·rintro (⟨x,hx,e⟩|⟨x,hx,e⟩)
   ·obtain⟨h1,h2⟩:=ZBt.1 hx
    have h3:x.kind=1:=by simpa using h2
    unfold tieI at e;obtain⟨e1,e2⟩:=Prod.mk.inj e;exact⟨x,h1,.inl h3,by unfold lnkA;rw[if_pos h3];exact e1,e2⟩
   ·obtain⟨h1,h2⟩:=ZBt.1 hx
    have h3:x.kind=2:=by simpa using h2
    unfold tieS at e;obtain⟨e1,e2⟩:=Prod.mk.inj e;exact⟨x,h1,.inr h3,by unfold lnkA;rw[if_neg (by omega)];exact e1,e2⟩
  ·rintro⟨x,hx,h3|h3,e1,e2⟩
   ·unfold lnkA at e1
    rw[if_pos h3] at e1;exact .inl ⟨x,ZBt.2 ⟨hx,by simp[h3]⟩,by unfold tieI;rw[e1,e2]⟩
   ·unfold lnkA at e1
    rw[if_neg (by omega)] at e1;exact .inr ⟨x,ZBt.2 ⟨hx,by simp[h3]⟩,by unfold tieS;rw[e1,e2]⟩
 rw[key,key]
 constructor
 ·rintro (⟨x,h1,h2,h3,h4⟩|⟨x,h1,h2,h3,h4⟩)
  ·exact⟨x,h1,h2,.inl ⟨h3,h4⟩⟩
  ·exact⟨x,h1,h2,.inr ⟨h4,h3⟩⟩
 ·rintro⟨x,h1,h2,⟨h3,h4⟩|⟨h3,h4⟩⟩
  ·exact .inl ⟨x,h1,h2,h3,h4⟩
  ·exact .inr ⟨x,h1,h2,h4,h3⟩
def prvP (s:List WkR)(p:List Str):Prop:=p≠[]/\p.Nodup/\chnP (nxtW s) p
structure ZS4 (s:List WkR)(p:List Str)(i:Nat):Prop where
 nd:∀j k (hj:j<i) (hk:k<j) (h:j<p.length),p[k]'(Nat.lt_trans hk h)≠p[j]
 ch:∀j (h0:0<j) (hj:j<i) (h:j<p.length),p[j]∈nxtW s (p[j-1]'(by omega))
theorem ZS4.all {s:List WkR}{p:List Str}(h:ZS4 s p p.length)(h0:p≠[]):prvP s p:=by
 refine⟨h0,List.pairwise_iff_getElem.2 fun i j hi hj hij=>h.nd j i hj hij hj,fun i x y hx hy=>?_⟩;obtain⟨h1,rfl⟩:=List.getElem?_eq_some_iff.1 hx;obtain⟨h2,rfl⟩:=List.getElem?_eq_some_iff.1 hy;exact h.ch (i+1) (Nat.succ_pos _) h2 h2
noncomputable instance (s:List WkR)(p:List Str):Decidable (prvP s p):=Classical.propDecidable _
def fndP (s:List WkR)(k n:Nat)(u v:Str):Prop:=k=0\/∃x∈s.take n,lnkP x u v
noncomputable instance (s:List WkR)(k n:Nat)(u v:Str):Decidable (fndP s k n u v):=Classical.propDecidable _
set_option maxHeartbeats 4000000 in
theorem ZQD {aS ap:Option Addr}{cS cp:Nat}{s:List WkR}{p:List Str}{h:Heap}(hS:ZA0 6 (fun _ row x=>row=rowW x) h aS s)(hls:Len s)(hp:ZAo str h ap p)(hlp:Len p)(hf:∀x∈s,x.Fit) :
  Sv Tryz.prog 39 [.slice aS s.length cS,.slice ap p.length cp] h (RetP fun v h'=>v=.bool (decide (prvP s p))/\h'=h):=by
 refine ZAG Tryz.func39 rfl (by rw[Tryz.ntmps39];rfl) ?_;show Wc Tryz.prog ⟨39,112,none⟩ _ _ _ _ _;refine zy ?_;refine ZAS (fun (i:Nat) m ds h'=>ds=[]/\h=h'/\i<=p.length/\ZS4 s p i/\AllK m [(0,.slice aS s.length cS),(1,.slice ap p.length cp),(5,i64 (i:Nat))]) (fun i=>p.length-i) 0 ?_ ?_
 ·exact⟨rfl,rfl,Nat.zero_le _,⟨fun j k hj=>absurd hj (Nat.not_lt_zero _),fun j _ hj=>absurd hj (Nat.not_lt_zero _)⟩,rfl,rfl,rfl,trivial⟩
 rintro i m ds h' ⟨rfl,rfl,hi,hP,hall⟩;refine Wc.le ?_ (Le.kn hall);clear hall;refine zy ?_;refine ZAW rfl rfl rfl rfl (ZAd rfl rfl) (fun hil=>?_) (fun hil=>?_);rotate_left
 ·have:i=p.length:=by omega
  subst this;refine zy ?_
  by_cases h0:p=[]
  ·refine ZAC rfl rfl rfl rfl (A_ff (by rw[h0];decide) (ZCS rfl rfl)) ?_
   refine zy ?_;exact ZAF (ZAH rfl ⟨by rw[decide_eq_false (fun q:prvP s p=>q.1 h0)];rfl,rfl⟩)
  ·have:0<p.length:=List.length_pos_iff.2 h0
   refine ZAC rfl rfl rfl rfl (A_tt (by omega) (ZCS rfl rfl)) ?_;refine zy ?_;exact ZAF (ZAH rfl ⟨by rw[decide_eq_true (hP.all h0)];rfl,rfl⟩)
 have hi':i<p.length:=by omega
 obtain⟨b,o,oa,rfl,hci⟩:=hp i hi';refine zy ?_;refine ZAS (fun (k:Nat) m ds h'=>ds=[]/\h=h'/\k<=i/\(∀k' (hk:k'<k),p[k']?≠p[i]?)/\AllK m [(0,.slice aS s.length cS),(1,.slice (some ⟨b,o,oa⟩) p.length cp),(5,i64 (i:Nat)),(6,i64 (k:Nat))]) (fun k=>i-k) 0 ?_ ?_
 ·exact⟨rfl,rfl,Nat.zero_le _,fun k' hk=>absurd hk (Nat.not_lt_zero _),rfl,rfl,rfl,rfl,trivial⟩
 rintro k m ds h' ⟨rfl,rfl,hk,hno,hall⟩;refine Wc.le ?_ (Le.kn hall);clear hall;refine zy ?_;refine ZAW rfl rfl rfl rfl (ZAd rfl rfl) (fun hkl=>?_) (fun hkl=>?_)
 ·have hk':k<i:=by omega
  have hkp:k<p.length:=by omega
  obtain⟨b',o',oa',e',hck⟩:=hp k hkp;cases e'
  by_cases he:p[k]=p[i]
  ·refine zy ?_
   refine ZAQ hmix [0,0,3,7,0,0,48,112,255] [0,1,2,3,4,5,6,7,8] none [] (by kernel_rfl) (by kernel_rfl) ?_;refine z_m ?_;refine z_m ?_;refine ZAA rfl rfl rfl rfl rfl (fun _=>A_ix (k:=k) Und.h Tsz.h rfl rfl hkp) ?_;refine z_l ?_;refine z_m ?_;refine z_m ?_;refine ZAA rfl rfl rfl rfl rfl (fun _=>A_ix (k:=i) Und.h Tsz.h rfl rfl hi') ?_;refine z_l ?_;refine ZAA rfl rfl rfl rfl rfl (fun _=>A_tt he (ZAV rfl rfl)) ?_;refine ZAY (ZAB rfl) nb' ?_;refine zy ?_;exact ZAF (ZAH rfl ⟨by rw[decide_eq_false (fun q:prvP s p=>List.pairwise_iff_getElem.1 q.2.1 k i hkp hi' hk' he)];rfl,rfl⟩)
  ·refine zy ?_
   refine ZAQ hmix [0,0,3,7,0,0,48,112,255] [0,1,2,3,4,5,6,7,8] none [] (by kernel_rfl) (by kernel_rfl) ?_;refine z_m ?_;refine z_m ?_;refine ZAA rfl rfl rfl rfl rfl (fun _=>A_ix (k:=k) Und.h Tsz.h rfl rfl hkp) ?_;refine z_l ?_;refine z_m ?_;refine z_m ?_;refine ZAA rfl rfl rfl rfl rfl (fun _=>A_ix (k:=i) Und.h Tsz.h rfl rfl hi') ?_;refine z_l ?_;refine ZAA rfl rfl rfl rfl rfl (fun _=>A_ff he (ZAV rfl rfl)) ?_;refine ZAY (ZAB rfl) nb' ?_;refine zy ?_;refine⟨k+1,(by show i-(k+1)<i-k;omega),rfl,rfl,hk',fun k' hk''=>?_,rfl,rfl,rfl,rfl,trivial⟩
   rcases Nat.lt_or_ge k' k with q|q
   ·exact hno k' q
   ·obtain rfl:k'=k:=by omega
    rw[List.getElem?_eq_getElem hkp,List.getElem?_eq_getElem hi'];exact fun q=>he (Option.some.inj q)
 have hki:k=i:=by omega
 subst hki;clear hkl hk;obtain⟨u,hu⟩:∃u,u=p[k-1]'(by omega):=⟨_,rfl⟩;have hcu:ZAZ h b (o+(k-1)*1)=some (str u):=by
  obtain⟨b',o',oa',e',hc⟩:=hp (k-1) (by omega);cases e';rw[hu];exact hc
 obtain⟨v,hv⟩:∃v,v=p[k]:=⟨_,rfl⟩;have hcv:ZAZ h b (o+k*1)=some (str v):=by rw[hv];exact hci
 have hF0:decide ((k:Int)=0)=decide (fndP s k 0 u v):=by
  rw[Bool.eq_iff_iff,decide_eq_true_iff,decide_eq_true_iff];unfold fndP
  constructor
  ·exact fun q=>.inl (by omega)
  ·rintro (q|⟨x,hx,-⟩)
   ·omega
   ·simp at hx
 refine zy ?_;refine ZAC rfl rfl rfl rfl (ZAt rfl rfl) ?_;rw[hF0];refine zy ?_;refine ZAS (fun (n:Nat) m ds h'=>ds=[]/\h=h'/\n<=s.length/\AllK m [(0,.slice aS s.length cS),(1,.slice (some ⟨b,o,oa⟩) p.length cp),(5,i64 (k:Nat)),(7,.bool (decide (fndP s k n u v))),(8,i64 (n:Nat))]) (fun n=>s.length-n) 0 ?_ ?_
 ·exact⟨rfl,rfl,Nat.zero_le _,rfl,rfl,rfl,rfl,rfl,trivial⟩
 rintro n m ds h' ⟨rfl,rfl,hn,hall⟩;refine Wc.le ?_ (Le.kn hall);clear hall;refine ZDu (Wc.mono (Q:=fun z m' ds' h'=>ds'=[]/\h=h'/\AllK m' [(0,.slice aS s.length cS),(1,.slice (some ⟨b,o,oa⟩) p.length cp),(5,i64 (k:Nat)),(7,.bool (decide (fndP s k n u v))),(8,i64 (n:Nat))]/\((z=.normal/\n<s.length/\¬(fndP s k n u v))\/(z=.exit 4/\(n<s.length->(fndP s k n u v))))) ?_ ?_)
 ·by_cases q1:n<s.length
  ·by_cases q2:fndP s k n u v
   ·rw[decide_eq_true q2]
    refine zy ?_;refine ZAC rfl rfl rfl rfl (A_tt (by omega) (ZAd rfl rfl)) ?_;refine zy ?_;exact⟨rfl,rfl,⟨rfl,rfl,rfl,rfl,rfl,trivial⟩,.inr ⟨rfl,fun _=>q2⟩⟩
   ·rw[decide_eq_false q2]
    refine zy ?_;refine ZAC rfl rfl rfl rfl (A_tt (by omega) (ZAd rfl rfl)) ?_;refine zy ?_;exact⟨rfl,rfl,⟨rfl,rfl,rfl,rfl,rfl,trivial⟩,.inl ⟨rfl,q1,q2⟩⟩
  ·refine zy ?_
   refine ZAC rfl rfl rfl rfl (A_ff (by omega) (ZAd rfl rfl)) ?_;refine zy ?_;exact⟨rfl,rfl,⟨rfl,rfl,rfl,rfl,rfl,trivial⟩,.inr ⟨rfl,fun q=>absurd q q1⟩⟩
 rintro z m _ _ ⟨rfl,rfl,hall,(⟨rfl,hn',hF⟩|⟨rfl,hcond⟩)⟩
 ·show Wc _ _ _ _ _ _ _
  refine Wc.le ?_ (Le.kn hall);clear hall;rw[decide_eq_false hF];have hk0:0<k:=Nat.pos_of_ne_zero fun q=>hF (.inl q);have htk:s.take (n+1)=s.take n++[s[n]]:=by rw[List.take_add_one,List.getElem?_eq_getElem hn'];rfl
  obtain⟨b2,o2,oa2,rfl,row,hr,hx⟩:=hS n hn';have e1:row=rowW s[n]:=hx;have hxf:=hf _ (List.getElem_mem hn');clear hx;generalize s[n]=x at *;subst e1;have hF1:decide (lnkP x u v)=decide (fndP s k (n+1) u v):=by
   rw[Bool.eq_iff_iff,decide_eq_true_iff,decide_eq_true_iff];unfold fndP;rw[htk]
   constructor
   ·exact fun q=>.inr ⟨x,by simp,q⟩
   ·rintro (q|⟨y,hy,q⟩)
    ·omega
    ·rcases List.mem_append.1 hy with hy|hy
     ·exact absurd (.inr ⟨y,hy,q⟩) hF
     ·rw[<-List.mem_singleton.1 hy];exact q
  have hc3:ZAZ h b2 (o2+n*6+3)=some (i64 x.kind):=ZAM (k:=3) hr rfl;have hc4:ZAZ h b2 (o2+n*6+4)=some (str x.a):=ZAM (k:=4) hr rfl;have hc5:ZAZ h b2 (o2+n*6+5)=some (str x.b):=ZAM (k:=5) hr rfl;have hal:1+x.a.length<9223372036854775808:=by have:=hxf.2;omega
  clear hxf;refine zy ?_;refine ZAQ hmix [0,0,3,7,15,0,0,96,224,480,31,2047] [0,1,2,3,4,5,6,7,8,9] (some 10) [([],(some 11)),([],none)] (by kernel_rfl) (by kernel_rfl) ?_;refine z_m ?_;refine z_m ?_;refine ZAA rfl rfl rfl rfl rfl (fun _=>A_ix (k:=n) Und.h Tsz.h rfl rfl hn') ?_;refine z_f ?_;refine z_l ?_;refine z_m ?_;refine z_m ?_;refine ZAA rfl rfl rfl rfl rfl (fun _=>A_ix (k:=n) Und.h Tsz.h rfl rfl hn') ?_;refine z_f ?_;refine z_l ?_;refine ZAN [0,1,2,3,4] (by kernel_rfl) rfl (ZAB rfl) rfl nb (kF (kF (kF (kF (kF (dF (dF (dF (dF (dF nF)))))))))) (ZEU rfl rfl (ZBL rfl) ?_);refine ZAN [0,1,2,3,4,5,6,7,8,9,10] (by kernel_rfl) rfl (by refine t_l 9 ?_;refine t_f 8 ?_;refine ZBF (i:=7) rfl rfl rfl rfl rfl (fun _=>A_ix (k:=n) Und.h Tsz.h rfl rfl hn') rfl ?_;refine t_m 6 ?_;refine t_m 5 ?_;exact ZAB rfl) rfl nb (dF (dF (dF (dF (dF nF))))) (ZEU rfl rfl (ZBL rfl) ?_)
  refine ZAY (ZAB rfl) nb' ?_
  show Wc _ _ _ _ _ _ _
  refine ZDu (Wc.mono (Q:=fun z m' ds' h'=>z=.normal/\ds'=[]/\h=h'/\AllK m' [(0,.slice (some ⟨b2,o2,oa2⟩) s.length cS),(1,.slice (some ⟨b,o,oa⟩) p.length cp),(5,i64 (k:Nat)),(7,.bool false),(8,i64 (n:Nat)),(9,str (lnkA x)),(10,str x.b)]) ?_ ?_)
  ·by_cases h1:x.kind=1
   ·have e1:lnkA x=35::x.a:=if_pos h1
    rw[e1];refine zy ?_;refine ZAC rfl rfl rfl rfl (A_ix (k:=n) Und.h Tsz.h rfl rfl hn') ?_;refine zy ?_;refine ZAC rfl rfl rfl rfl (A_tt h1 (ZAt rfl rfl)) ?_;refine zy ?_;refine ZAC rfl rfl rfl rfl (ZND (a:=[35]) (b:=x.a) rfl rfl hal) ?_;refine zy ?_;exact⟨rfl,rfl,rfl,rfl,rfl,rfl,rfl,rfl,rfl,rfl,trivial⟩
   ·have e1:lnkA x=x.a:=if_neg h1
    rw[e1];refine zy ?_;refine ZAC rfl rfl rfl rfl (A_ix (k:=n) Und.h Tsz.h rfl rfl hn') ?_;refine zy ?_;refine ZAC rfl rfl rfl rfl (A_ff h1 (ZAt rfl rfl)) ?_;refine zy ?_;exact⟨rfl,rfl,rfl,rfl,rfl,rfl,rfl,rfl,rfl,rfl,trivial⟩
  rintro _ m _ _ ⟨rfl,rfl,rfl,hall⟩
  show Wc _ _ _ _ _ _ _
  refine Wc.le ?_ (Le.kn hall);clear hall;refine ZDu (Wc.mono (Q:=fun z m' ds' h'=>z=.normal/\ds'=[]/\h=h'/\AllK m' [(0,.slice (some ⟨b2,o2,oa2⟩) s.length cS),(1,.slice (some ⟨b,o,oa⟩) p.length cp),(5,i64 (k:Nat)),(7,.bool false),(8,i64 (n:Nat)),(9,str (lnkA x)),(10,str x.b),(74,.bool (decide (x.kind=1\/x.kind=2)))]) ?_ ?_)
  ·by_cases h1:x.kind=1
   ·rw[decide_eq_true (.inl h1:x.kind=1\/x.kind=2)]
    refine zy ?_;refine ZAC rfl rfl rfl rfl (A_ix (k:=n) Und.h Tsz.h rfl rfl hn') ?_;refine zy ?_;refine ZAC rfl rfl rfl rfl (A_tt h1 (ZAt rfl rfl)) ?_;refine zy ?_;exact⟨rfl,rfl,rfl,rfl,rfl,rfl,rfl,rfl,rfl,rfl,rfl,trivial⟩
   ·by_cases h2:x.kind=2
    ·rw[decide_eq_true (.inr h2:x.kind=1\/x.kind=2)]
     refine zy ?_;refine ZAC rfl rfl rfl rfl (A_ix (k:=n) Und.h Tsz.h rfl rfl hn') ?_;refine zy ?_;refine ZAC rfl rfl rfl rfl (A_ff h1 (ZAt rfl rfl)) ?_;refine zy ?_;refine ZAC rfl rfl rfl rfl (A_ix (k:=n) Und.h Tsz.h rfl rfl hn') ?_;refine zy ?_;refine ZAC rfl rfl rfl rfl (A_tt h2 (ZAt rfl rfl)) ?_;refine zy ?_;exact⟨rfl,rfl,rfl,rfl,rfl,rfl,rfl,rfl,rfl,rfl,rfl,trivial⟩
    ·rw[decide_eq_false (fun q:x.kind=1\/x.kind=2=>q.elim h1 h2)]
     refine zy ?_;refine ZAC rfl rfl rfl rfl (A_ix (k:=n) Und.h Tsz.h rfl rfl hn') ?_;refine zy ?_;refine ZAC rfl rfl rfl rfl (A_ff h1 (ZAt rfl rfl)) ?_;refine zy ?_;refine ZAC rfl rfl rfl rfl (A_ix (k:=n) Und.h Tsz.h rfl rfl hn') ?_;refine zy ?_;refine ZAC rfl rfl rfl rfl (A_ff h2 (ZAt rfl rfl)) ?_;refine zy ?_;exact⟨rfl,rfl,rfl,rfl,rfl,rfl,rfl,rfl,rfl,rfl,rfl,trivial⟩
  rintro _ m _ _ ⟨rfl,rfl,rfl,hall⟩
  show Wc _ _ _ _ _ _ _
  refine Wc.le ?_ (Le.kn hall);clear hall;refine Wc.mono (Q:=fun z m' ds' h'=>z=.normal/\ds'=[]/\h=h'/\AllK m' [(0,.slice (some ⟨b2,o2,oa2⟩) s.length cS),(1,.slice (some ⟨b,o,oa⟩) p.length cp),(5,i64 (k:Nat)),(7,.bool (decide (lnkP x u v))),(8,i64 (n:Nat))]) ?_ ?_
  ·by_cases h12:x.kind=1\/x.kind=2
   ·rw[decide_eq_true h12]
    refine zy ?_;refine ZAC rfl rfl rfl rfl (ZAK (k:=k-1) Und.h Tsz.h rfl rfl (by omega) (by omega)) ?_;refine zy ?_
    by_cases q1:lnkA x=u
    ·refine ZAC rfl rfl rfl rfl (A_tt q1 (ZAV rfl rfl)) ?_
     refine zy ?_;refine ZAC rfl rfl rfl rfl (A_ix (k:=k) Und.h Tsz.h rfl rfl hi') ?_;refine zy ?_
     by_cases q2:x.b=v
     ·refine ZAC rfl rfl rfl rfl (A_tt q2 (ZAV rfl rfl)) ?_
      refine zy ?_;rw[decide_eq_true (show lnkP x u v from⟨h12,.inl ⟨q1,q2⟩⟩)];exact⟨rfl,rfl,rfl,rfl,rfl,rfl,rfl,rfl,trivial⟩
     ·refine ZAC rfl rfl rfl rfl (A_ff q2 (ZAV rfl rfl)) ?_
      refine zy ?_;refine ZAC rfl rfl rfl rfl (ZAK (k:=k-1) Und.h Tsz.h rfl rfl (by omega) (by omega)) ?_;refine zy ?_
      by_cases q3:x.b=u
      ·refine ZAC rfl rfl rfl rfl (A_tt q3 (ZAV rfl rfl)) ?_
       refine zy ?_;refine ZAC rfl rfl rfl rfl (A_ix (k:=k) Und.h Tsz.h rfl rfl hi') ?_;refine zy ?_
       by_cases q4:lnkA x=v
       ·refine ZAC rfl rfl rfl rfl (A_tt q4 (ZAV rfl rfl)) ?_
        refine zy ?_;rw[decide_eq_true (show lnkP x u v from⟨h12,.inr ⟨q3,q4⟩⟩)];exact⟨rfl,rfl,rfl,rfl,rfl,rfl,rfl,rfl,trivial⟩
       ·refine ZAC rfl rfl rfl rfl (A_ff q4 (ZAV rfl rfl)) ?_
        refine zy ?_;rw[decide_eq_false (show ¬lnkP x u v from fun z=>z.2.elim (fun z=>q2 z.2) fun z=>q4 z.2)];exact⟨rfl,rfl,rfl,rfl,rfl,rfl,rfl,rfl,trivial⟩
      ·refine ZAC rfl rfl rfl rfl (A_ff q3 (ZAV rfl rfl)) ?_
       refine zy ?_;rw[decide_eq_false (show ¬lnkP x u v from fun z=>z.2.elim (fun z=>q2 z.2) fun z=>q3 z.1)];exact⟨rfl,rfl,rfl,rfl,rfl,rfl,rfl,rfl,trivial⟩
    ·refine ZAC rfl rfl rfl rfl (A_ff q1 (ZAV rfl rfl)) ?_
     refine zy ?_;refine ZAC rfl rfl rfl rfl (ZAK (k:=k-1) Und.h Tsz.h rfl rfl (by omega) (by omega)) ?_;refine zy ?_
     by_cases q3:x.b=u
     ·refine ZAC rfl rfl rfl rfl (A_tt q3 (ZAV rfl rfl)) ?_
      refine zy ?_;refine ZAC rfl rfl rfl rfl (A_ix (k:=k) Und.h Tsz.h rfl rfl hi') ?_;refine zy ?_
      by_cases q4:lnkA x=v
      ·refine ZAC rfl rfl rfl rfl (A_tt q4 (ZAV rfl rfl)) ?_
       refine zy ?_;rw[decide_eq_true (show lnkP x u v from⟨h12,.inr ⟨q3,q4⟩⟩)];exact⟨rfl,rfl,rfl,rfl,rfl,rfl,rfl,rfl,trivial⟩
      ·refine ZAC rfl rfl rfl rfl (A_ff q4 (ZAV rfl rfl)) ?_
       refine zy ?_;rw[decide_eq_false (show ¬lnkP x u v from fun z=>z.2.elim (fun z=>q1 z.1) fun z=>q4 z.2)];exact⟨rfl,rfl,rfl,rfl,rfl,rfl,rfl,rfl,trivial⟩
     ·refine ZAC rfl rfl rfl rfl (A_ff q3 (ZAV rfl rfl)) ?_
      refine zy ?_;rw[decide_eq_false (show ¬lnkP x u v from fun z=>z.2.elim (fun z=>q1 z.1) fun z=>q3 z.1)];exact⟨rfl,rfl,rfl,rfl,rfl,rfl,rfl,rfl,trivial⟩
   ·rw[decide_eq_false h12,decide_eq_false (fun q:lnkP x u v=>h12 q.1)]
    refine zy ?_;exact⟨rfl,rfl,rfl,rfl,rfl,rfl,rfl,rfl,trivial⟩
  rintro _ m _ _ ⟨rfl,rfl,rfl,hall⟩
  show Wc _ _ _ _ _ _ _
  refine Wc.le ?_ (Le.kn hall);clear hall;rw[hF1];refine zy ?_;exact⟨n+1,(by show s.length-(n+1)<s.length-n;omega),rfl,rfl,hn',rfl,rfl,rfl,rfl,rfl,trivial⟩
 show Wc _ _ _ _ _ _ _
 refine Wc.le ?_ (Le.kn hall);clear hall
 by_cases hF:fndP s k n u v
 ·rw[decide_eq_true hF]
  refine zy ?_;refine⟨k+1,(by show p.length-(k+1)<p.length-k;omega),rfl,rfl,hi',⟨fun j k' hj hk' hjl=>?_,fun j h0 hj hjl=>?_⟩,rfl,rfl,rfl,trivial⟩
  ·rcases Nat.lt_or_ge j k with q|q
   ·exact hP.nd j k' q hk' hjl
   ·obtain rfl:j=k:=by omega
    intro e;have:=hno k' hk';rw[List.getElem?_eq_getElem (by omega),List.getElem?_eq_getElem hjl,e] at this;exact this rfl
  ·rcases Nat.lt_or_ge j k with q|q
   ·exact hP.ch j h0 q hjl
   ·obtain rfl:j=k:=by omega
    rcases hF with hF|⟨x,hx,hF⟩
    ·omega
    ·rw[hu,hv] at hF
     exact ZOZ.2 ⟨x,List.mem_of_mem_take hx,hF⟩
 ·have hnl:n=s.length:=by
   rcases Nat.lt_or_ge n s.length with q|q
   ·exact absurd (hcond q) hF
   ·omega
  subst hnl
  have hbad:¬prvP s p:=fun q=>hF (by
   rcases Nat.eq_zero_or_pos k with q0|q0
   ·exact .inl q0
   ·have h1:=q.2.2 (k-1) u v (by rw[hu];exact List.getElem?_eq_getElem _) (by rw[hv,Nat.sub_add_cancel q0];exact List.getElem?_eq_getElem _)
    obtain⟨x,hx,hl⟩:=ZOZ.1 h1;exact .inr ⟨x,by rw[List.take_length];exact hx,hl⟩)
  rw[decide_eq_false hF];refine zy ?_;exact ZAF (ZAH rfl ⟨by rw[decide_eq_false hbad];rfl,rfl⟩)
theorem ZRf {S:List WkR}(hg:∀x∈S,ZA4 x=0){x:WkR}(hx:x∈S)(h3:x.kind=3):ZCM S x.a=true/\ZCM S x.b=true:=by
 have h1:x.a∈namA x:=by simp[namA,h3]
 have h2:x.b∈namB x:=by simp[namB,h3]
 exact⟨(ZMq hg _).1 (List.mem_flatMap.2 ⟨x,hx,List.mem_append_left _ h1⟩),(ZMq hg _).1 (List.mem_flatMap.2 ⟨x,hx,List.mem_append_right _ h2⟩)⟩
theorem ZO0 {l:List WkR}{a b:Str}(hc:(chkS l).2=0)(h:(ZBl l a b).2=0):ZCM (ZAJ (mrgU ltW l)) a=true/\ZCM (ZAJ (mrgU ltW l)) b=true/\(ZBl l a b).1=ZAs (nxtW (ZAJ (mrgU ltW l))) a b (nodW (ZAJ (mrgU ltW l))).length:=by
 unfold ZBl at h ⊢;rw[if_neg (fun q=>q hc)] at h ⊢
 split at h
 ·exact absurd h (by decide)
 ·rename_i hn
  rw[if_neg hn];refine⟨?_,?_,rfl⟩
  ·cases q:ZCM (ZAJ (mrgU ltW l)) a with
   | true=>rfl
   | false=>exact absurd (.inl q) hn
  ·cases q:ZCM (ZAJ (mrgU ltW l)) b with
   | true=>rfl
   | false=>exact absurd (.inr q) hn
theorem ZRP {l:List WkR}{a b:Str}(h:(ZBl l a b).2≠0):(ZBl l a b).1=[]:=by
 unfold ZBl at h ⊢
 split at h
 ·rename_i hc;rw[if_pos hc]
 ·rename_i hc
  rw[if_neg hc]
  split at h
  ·rename_i hn;rw[if_pos hn]
  ·exact absurd rfl h
theorem ZN5 {l:List WkR}{a b:Str}(hc:(chkS l).2=0)(ha:ZCM (ZAJ (mrgU ltW l)) a=true)(hb:ZCM (ZAJ (mrgU ltW l)) b=true):ZBl l a b=(ZAs (nxtW (ZAJ (mrgU ltW l))) a b (nodW (ZAJ (mrgU ltW l))).length,0):=by
 unfold ZBl;rw[if_neg (fun q=>q hc),if_neg (fun q=>by rw[ha,hb] at q;simp at q)]
theorem ZOf {S:List WkR}:∀{L:List WkR}{j:Nat}{x:WkR},L[j]?=some x->∃R,clsL S L=clsL S (L.take j)++(if x.kind=3 then clF S x else [])++R:=fun {L j x} hx=>by
 obtain⟨hj,rfl⟩:=List.getElem?_eq_some_iff.1 hx;refine⟨clsL S (L.drop (j+1)),?_⟩;have e:L=L.take (j+1)++L.drop (j+1):=(List.take_append_drop _ _).symm
 conv=>lhs;rw[e]
 have:clsL S (L.take (j+1))=clsL S (L.take j)++if L[j].kind=3 then clF S L[j] else []:=by
  rw[List.take_add_one,List.getElem?_eq_getElem hj];exact ZKn _ _ _
 rw[<-this];unfold clsL;rw[List.flatMap_append]
set_option maxHeartbeats 8000000 in
theorem ZH5 {ad ao:Option Addr}{cap co:Nat}{l:List WkR}{a b:Str}{o:List Str}{h:Heap}(hR:SrcK rowW 6 h ad l)(hn:ad=none->l=[]/\cap=0)(hf:∀x∈l,x.Fit)(hlen:Len l)(hL:WkLib h)(hla:Len a)(hlb:Len b)(ho:ZAo str h ao o)(hlo:Len o) :
  Sv Tryz.prog 10 [.slice ad l.length cap,.agg ⟨[str a,str b]⟩,.slice ao o.length co] h (RetP fun v h'=>v=.bool true/\Ext h h'):=by
 refine ZAG Tryz.func10 rfl (by rw[Tryz.ntmps10];rfl) ?_;show Wc Tryz.prog ⟨10,222,none⟩ _ _ _ _ _;refine zy ?_;refine ZBU rfl rfl rfl fun h1 hE1 hW1 hg1 hn1=>?_;generalize h.nx=b4 at hg1 ⊢;refine zy ?_;refine ZAI rfl rfl rfl rfl rfl Bod.h rfl rfl (ZBj (hR.ext hE1) hn hf hlen (hL.ext hE1)) ?_;rintro _ h2 ⟨⟨aS,nS,cS,aF,nFo,cF,rfl,hcB,-⟩,hE12⟩;have hE2:=hE1.trans hE12;have hg2:=hE12.get hg1;refine zy ?_;refine ZAC rfl rfl rfl rfl (ZAi (k:=0) Und.h Tsz.h rfl rfl rfl (by decide)) ?_;refine zy ?_;refine ZAC rfl rfl rfl rfl (ZAi (k:=1) Und.h Tsz.h rfl rfl rfl (by decide)) ?_;refine zy ?_;refine ZAI rfl rfl rfl rfl rfl Bod.h rfl rfl (ZLV (hR.ext hE2) hn hf hlen (hL.ext hE2) hla hlb) ?_
 rintro _ h3 ⟨v1,rfl,hF3,hE23⟩;have hPl:(ZBl l a b).1.length<=10001:=ZRp;obtain⟨aP,rfl,-,hP3⟩:=ZAD.list (enc:=str) hF3;have hE3:=hE2.trans hE23;have hg3:=hE23.get hg2;refine zy ?_;refine ZAI rfl rfl rfl rfl rfl Bod.h rfl rfl (ZNq (hR.ext hE3) hn hf hlen (hL.ext hE3)) ?_;rintro _ h4 ⟨hC4,hE34⟩;have hE4:=hE3.trans hE34;have hg4:=hE34.get hg3
 rcases hC4 with ⟨hc,rfl⟩|⟨hc,a4,k4,rfl,hC4⟩
 ·have hP0:(ZBl l a b).1=[]:=by unfold ZBl;rw[if_pos hc]
  rw[hP0] at hP3 ⊢;generalize (chkS l).2=e at *;refine zy ?_;refine ZAC rfl rfl rfl rfl (A_tt hc (ZAy rfl rfl)) ?_;refine zy ?_;refine ZAC rfl rfl rfl rfl (A_tt rfl (ZAt rfl rfl)) ?_;refine zy ?_;refine ZAC rfl rfl rfl rfl (A_tt rfl (ZAt rfl rfl)) ?_;refine zy ?_;refine ZAC rfl rfl rfl rfl (A_tt rfl (ZAt rfl rfl)) ?_;refine zy ?_;refine ZAT rfl rfl rfl rfl rfl Bod.h rfl rfl (ZA6 (hL.ext hE4)) fun h6 hE6=>?_;refine zy ?_;exact ZAF (ZAH rfl ⟨rfl,hE4.trans hE6⟩)
 have hll:=ZCB hc;have hcg:=ZDW hc;have hSl:(ZAJ (mrgU ltW l)).length<=200:=Nat.le_trans (ZCL l) hll;have hcl:=ZMo (ZAJ (mrgU ltW l)) (ZAJ (mrgU ltW l));have hcp:=ZST (S:=ZAJ (mrgU ltW l)) (L:=ZAJ (mrgU ltW l)) (fun _ h=>h) hSl;have hsg:∀x∈ZAJ (mrgU ltW l),ZA4 x=0:=fun x hx=>hcg x (ZCQ hx);have hsf:∀x∈ZAJ (mrgU ltW l),x.Fit:=fun x hx=>hf x (ZCQ hx);have hne:=ZNT hsg
 have hway:∀u v:Str,u∈nodW (ZAJ (mrgU ltW l))->ZAs (nxtW (ZAJ (mrgU ltW l))) u v (nodW (ZAJ (mrgU ltW l))).length≠[]->prvP (ZAJ (mrgU ltW l)) (ZAs (nxtW (ZAJ (mrgU ltW l))) u v (nodW (ZAJ (mrgU ltW l))).length):=fun u v hu hp=>by
  obtain⟨-,-,h3,h4,-⟩:=ZHn hne hu hp;exact⟨hp,h4,h3⟩
 have hFP:(ZBl l a b).2=0->(ZBl l a b).1≠[]->prvP (ZAJ (mrgU ltW l)) (ZBl l a b).1/\(ZBl l a b).1[0]?=some a/\∃r,(ZBl l a b).1=r++[b]:=fun h0 hp=>by
  obtain⟨q1,-,q3⟩:=ZO0 hc h0;rw[q3] at hp ⊢;obtain⟨p1,p2,-⟩:=ZHn hne (ZGn q1) hp;exact⟨hway a b (ZGn q1) hp,p1,p2⟩
 have hFO:∀r,prvP (ZAJ (mrgU ltW l)) o->o[0]?=some a->o=r++[b]->((ZBl l a b).2=0->(ZBl l a b).1≠[])/\(ZBl l a b).1.length<=o.length:=fun r hp h0 hl=>by
  by_cases he:(ZBl l a b).2=0
  ·obtain⟨q1,-,q3⟩:=ZO0 hc he
   rw[q3];obtain⟨p1,p2⟩:=ZMY hne (ZGn q1) h0 hl hp.2.2;exact⟨fun _=>p1,p2⟩
  ·rw[ZRP he]
   exact⟨fun q=>absurd q he,Nat.zero_le _⟩
 have hFR:∀x∈ZAJ (mrgU ltW l),x.kind=3->ZBl l x.a x.b=(ZAs (nxtW (ZAJ (mrgU ltW l))) x.a x.b (nodW (ZAJ (mrgU ltW l))).length,0):=fun x hx h3=>by
  obtain⟨q1,q2⟩:=ZRf hsg hx h3;exact ZN5 hc q1 q2
 obtain⟨rfl,-,hSS,-⟩:=hcB hc;replace hSS:=(hSS.ext hE23).ext hE34;replace hP3:=hP3.ext hE34;have hO4:=ho.ext hE4;have hR4:=hR.ext hE4;have hL4:=hL.ext hE4;rw[hc];clear hcB hcg hg1 hg2 hg3 hE34 hE23 hE12
 have hfitp:∀x∈ZAJ (mrgU ltW l),Len x.a/\Len x.b:=fun x hx=>by
  have h1:=(hsf x hx).2;have h2:=(hsf x hx).3;exact⟨show _<_ by omega,show _<_ by omega⟩
 generalize hPe:(ZBl l a b).1=P at *;generalize hEe:(ZBl l a b).2=E at *;have hSame:=fun (x:WkR) (ad2:Option Addr) (h:Heap) (hR:SrcK rowW 6 h ad l) (hL:WkLib h) (hla:Len x.a) (hlb:Len x.b)=>ZLV (a:=x.a) (b:=x.b) hR hn hf hlen hL hla hlb;generalize ZAJ (mrgU ltW l)=S at *;generalize hCC:clsL S S=C at *;refine zy ?_;refine ZAC rfl rfl rfl rfl (A_ff (fun q=>q rfl) (ZAy rfl rfl)) ?_;refine zy ?_;refine ZAC rfl rfl rfl rfl (A_ff (fun q=>q rfl) (ZAy rfl rfl)) ?_;refine zy ?_;have hprv:=fun (p:List Str) (ap:Option Addr) (cp:Nat) (h':Heap) (hE:Ext h4 h') (hp:ZAo str h' ap p) (hlp:Len p)=>ZQD (cS:=cS) (cp:=cp) ((hSS.ext hE).1) (show Len S from show _<_ by omega) hp hlp hsf
 have hlP:Len P:=show _<_ by omega
 have hb0:ZAZ h4 b4 (0+0*1)=some (str a):=ZAb hg4 rfl;have hb1:ZAZ h4 b4 (0+1*1)=some (str b):=ZAb hg4 rfl;refine Wc.mono (Q:=fun z m' ds' h'=>z=.normal/\ds'=[]/\h4=h'/\AllK m' [(0,.slice ad l.length cap),(2,.slice ao o.length co),(4,.pointer (some ⟨b4,0,none⟩)),(7,.slice aS S.length cS),(10,.slice aP P.length P.length),(11,i64 E),(12,.slice a4 C.length k4),(91,.bool false)]) ?_ ?_
 ·clear hFO hFR hC4 hSame
  by_cases c1:E=0
  rotate_left
  ·refine zy ?_
   refine ZAQ hmix [0,1,3,7,15,31,63,127,255,255,1023,2047,4095,8191,16383,32767,8191,73727,262143,524287,1048575,2097151,2097151,6291455,14680063,33554431,67108863,2097151,136314879,536870911,1073741823,2147483647] [0,1,2,3,4,5,6,7,8,9] (some 10) [([11,12,13,14,15,16,17,18,19,20,21,22,23,24,25,26,27,28,29,30,31],none)] (by kernel_rfl) (by kernel_rfl) ?_;refine z_m ?_;refine ZAA rfl rfl rfl rfl rfl (fun _=>A_ff c1 (ZAt rfl rfl)) ?_;refine z_m ?_;refine g_m ?_;refine g_c ?_;refine z_o ?_;refine z_p ?_;refine z_m ?_;refine g_m ?_;refine g_m ?_;refine ZAN [0,1,2,3,4,5,6,7,8,9] (by kernel_rfl) rfl (ZAB rfl) rfl nb (dF (dF (dF (dF (dF (dF (dF (dF (dF (dF nF)))))))))) (ZCI rfl ?_)
   refine g_n ?_;refine g_m ?_;refine g_m ?_;refine z_o ?_;refine g_l ?_;refine z_o ?_;refine g_l ?_;refine z_o ?_;refine g_p ?_;refine g_m ?_;refine g_m ?_;refine g_m ?_;refine g_c ?_;refine g_u ?_;refine z_o ?_;refine g_l ?_;refine z_o ?_;refine g_l ?_;refine z_o ?_;refine g_p ?_;refine z_p ?_;refine ZAY (ZAB rfl) nb' ?_;exact⟨rfl,rfl,rfl,rfl,rfl,rfl,rfl,rfl,rfl,rfl,rfl,trivial⟩
  by_cases c2:P=[]
  ·have hP0:P.length=0:=by rw[c2];rfl
   refine zy ?_;refine ZAQ hmix [0,1,3,7,15,31,63,127,255,255,1023,2047,4095,8191,16383,32767,8191,73727,262143,524287,1048575,2097151,2097151,6291455,14680063,33554431,67108863,2097151,136314879,536870911,1073741823,2147483647] [0,1,2,3,4,5,6,7,8,9] (some 10) [([11,12,13,14,15,16,17,18,19,20,21,22,23,24,25,26,27,28,29,30,31],none)] (by kernel_rfl) (by kernel_rfl) ?_;refine z_m ?_;refine ZAA rfl rfl rfl rfl rfl (fun _=>A_tt c1 (ZAt rfl rfl)) ?_;refine z_m ?_;refine g_m ?_;refine g_c ?_
   first|refine ZAO rfl rfl rfl rfl ?_|refine ZAA rfl rfl rfl rfl rfl (fun _=>A_ff (by omega) (ZCS rfl rfl)) ?_
   refine z_p ?_;refine z_m ?_;refine g_m ?_;refine g_m ?_;refine ZAN [0,1,2,3,4,5,6,7,8,9] (by kernel_rfl) rfl (ZAB rfl) rfl nb (dF (dF (dF (dF (dF (dF (dF (dF (dF (dF nF)))))))))) (ZCI rfl ?_);refine g_n ?_;refine g_m ?_;refine g_m ?_;refine z_o ?_;refine g_l ?_;refine z_o ?_;refine g_l ?_;refine z_o ?_;refine g_p ?_;refine g_m ?_;refine g_m ?_;refine g_m ?_;refine g_c ?_;refine g_u ?_;refine z_o ?_;refine g_l ?_;refine z_o ?_;refine g_l ?_;refine z_o ?_;refine g_p ?_;refine z_p ?_;refine ZAY (ZAB rfl) nb' ?_;exact⟨rfl,rfl,rfl,rfl,rfl,rfl,rfl,rfl,rfl,rfl,rfl,trivial⟩
  obtain⟨g1,g2,r,g3⟩:=hFP c1 c2;have hpo:=hprv P aP P.length h4 (Ext.refl _) hP3 hlP;rw[decide_eq_true g1] at hpo;have hPl0:0<P.length:=List.length_pos_iff.2 c2;obtain⟨bo,oo,oao,rfl,hco0⟩:=hP3 0 hPl0;obtain⟨bo',oo',oao',eo',hco1⟩:=hP3 (P.length-1) (by omega);cases eo';have hu:P[0]=a:=by rw[List.getElem?_eq_getElem hPl0] at g2;exact Option.some.inj g2
  have hv:P[P.length-1]'(by omega)=b:=by simp[g3]
  rw[hu] at hco0;rw[hv] at hco1;refine zy ?_;refine ZAQ hmix [0,1,3,7,15,31,63,127,255,255,1023,2047,4095,8191,16383,32767,8191,73727,262143,524287,1048575,2097151,2097151,6291455,14680063,33554431,67108863,2097151,136314879,536870911,1073741823,2147483647] [0,1,2,3,4,5,6,7,8,9] (some 10) [([11,12,13,14,15,16,17,18,19,20,21,22,23,24,25,26,27,28,29,30,31],none)] (by kernel_rfl) (by kernel_rfl) ?_;refine z_m ?_;refine ZAA rfl rfl rfl rfl rfl (fun _=>A_tt c1 (ZAt rfl rfl)) ?_;refine z_m ?_;refine g_m ?_;refine g_c ?_
  first|refine ZAO rfl rfl rfl rfl ?_|refine ZAA rfl rfl rfl rfl rfl (fun _=>A_tt (by omega) (ZCS rfl rfl)) ?_
  refine z_p ?_;refine z_m ?_;refine g_m ?_;refine g_m ?_;refine ZAN [0,1,2,3,4,5,6,7,8,9] (by kernel_rfl) rfl (ZAB rfl) rfl nb (dF (dF (dF (dF (dF (dF (dF (dF (dF (dF nF)))))))))) (ZAf rfl rfl rfl rfl rfl Bod.h hpo ?_);refine g_n ?_;refine g_m ?_;refine g_m ?_
  first|refine ZAO rfl rfl rfl rfl ?_|refine ZAA rfl rfl rfl rfl rfl (fun _=>A_ix (k:=0) Und.h Tsz.h rfl rfl hPl0) ?_
  refine g_l ?_
  first|refine ZAO rfl rfl rfl rfl ?_|refine ZAA rfl rfl rfl rfl rfl (fun _=>ZAi (k:=0) Und.h Tsz.h rfl rfl rfl (by decide)) ?_
  refine g_l ?_
  first|refine ZAO rfl rfl rfl rfl ?_|refine ZAA rfl rfl rfl rfl rfl (fun _=>A_ff (fun q=>q rfl) (ZAj rfl rfl)) ?_
  refine g_p ?_;refine g_m ?_;refine g_m ?_;refine g_m ?_;refine g_c ?_;refine g_u ?_
  first|refine ZAO rfl rfl rfl rfl ?_|refine ZAA rfl rfl rfl rfl rfl (fun _=>ZAK (k:=P.length-1) Und.h Tsz.h rfl rfl (by omega) (by omega)) ?_
  refine g_l ?_
  first|refine ZAO rfl rfl rfl rfl ?_|refine ZAA rfl rfl rfl rfl rfl (fun _=>ZAi (k:=1) Und.h Tsz.h rfl rfl rfl (by decide)) ?_
  refine g_l ?_
  first|refine ZAO rfl rfl rfl rfl ?_|refine ZAA rfl rfl rfl rfl rfl (fun _=>A_ff (fun q=>q rfl) (ZAj rfl rfl)) ?_
  refine g_p ?_;refine z_p ?_;refine ZAY (ZAB rfl) nb' ?_;exact⟨rfl,rfl,rfl,rfl,rfl,rfl,rfl,rfl,rfl,rfl,rfl,trivial⟩
 rintro _ m _ _ ⟨rfl,rfl,rfl,hall⟩
 show Wc _ _ _ _ _ _ _
 refine Wc.le ?_ (Le.kn hall);clear hall;refine zy ?_;refine Wc.mono (Q:=fun z m' ds' h'=>z=.normal/\ds'=[]/\h4=h'/\AllK m' [(0,.slice ad l.length cap),(7,.slice aS S.length cS),(12,.slice a4 C.length k4),(141,.bool false)]) ?_ ?_
 ·clear hFP hFR hC4 hSame
  by_cases c1:o.length<=40
  rotate_left
  ·refine zy ?_
   refine ZAQ hmix [0,1,3,7,15,15,63,127,255,511,1023,2047,511,4607,16383,32767,65535,131071,131071,393215,917503,2097151,4194303,131071,8519679,33554431,67108863,134217727,268435455,536870911,268435455,1342177279,4294967295,8589934591,17179869183,34359738367,68719476735,137438953471,274877906943,549755813887,1099511627775,2199023255551,4398046511103,8796093022207,17592186044415,8796093022207,43980465111039,140737488355327,281474976710655,562949953421311] [0,1,2,3,4,5] (some 6) [([7,8,9,10,11,12,13,14,15,16,17,18,19,20,21,22,23,24,25,26,27,28,29,30,31,32,33,34,35,36,37,38,39,40,41,42,43,44,45,46,47,48,49],none)] (by kernel_rfl) (by kernel_rfl) ?_
   refine z_m ?_;refine z_c ?_;refine ZAA rfl rfl rfl rfl rfl (fun _=>A_ff (by omega) (ZFr rfl rfl)) ?_;refine z_m ?_;refine g_m ?_;refine g_m ?_;refine ZAN [0,1,2,3,4,5] (by kernel_rfl) rfl (ZAB rfl) rfl nb (dF (dF (dF (dF (dF (dF nF)))))) (ZCI rfl ?_);refine z_p ?_;refine z_m ?_;refine g_m ?_;refine z_o ?_;refine g_l ?_;refine z_o ?_;refine g_l ?_;refine z_o ?_;refine z_p ?_;refine z_m ?_;refine g_m ?_;refine g_m ?_;refine g_c ?_;refine g_u ?_;refine z_o ?_;refine g_l ?_;refine g_i ?_;refine g_l ?_;refine z_o ?_;refine z_p ?_;refine z_m ?_;refine z_o ?_;refine g_l ?_;refine z_o ?_;refine g_l ?_;refine z_o ?_;refine z_p ?_;refine z_m ?_;refine g_m ?_;refine z_o ?_;refine g_m ?_;refine g_m ?_;refine g_c ?_;refine z_o ?_;refine g_p ?_;refine g_m ?_;refine g_m ?_;refine g_c ?_;refine g_m ?_;refine g_c ?_;refine z_o ?_;refine g_p ?_;refine z_p ?_
   refine ZAY (ZAB rfl) nb' ?_;exact⟨rfl,rfl,rfl,rfl,rfl,rfl,rfl,trivial⟩
  have hpo:=hprv o ao co h4 (Ext.refl _) hO4 hlo
  by_cases c2:prvP S o
  rotate_left
  ·rw[decide_eq_false c2] at hpo
   refine zy ?_;refine ZAQ hmix [0,1,3,7,15,15,63,127,255,511,1023,2047,511,4607,16383,32767,65535,131071,131071,393215,917503,2097151,4194303,131071,8519679,33554431,67108863,134217727,268435455,536870911,268435455,1342177279,4294967295,8589934591,17179869183,34359738367,68719476735,137438953471,274877906943,549755813887,1099511627775,2199023255551,4398046511103,8796093022207,17592186044415,8796093022207,43980465111039,140737488355327,281474976710655,562949953421311] [0,1,2,3,4,5] (some 6) [([7,8,9,10,11,12,13,14,15,16,17,18,19,20,21,22,23,24,25,26,27,28,29,30,31,32,33,34,35,36,37,38,39,40,41,42,43,44,45,46,47,48,49],none)] (by kernel_rfl) (by kernel_rfl) ?_
   refine z_m ?_;refine z_c ?_;refine ZAA rfl rfl rfl rfl rfl (fun _=>A_tt (by omega) (ZFr rfl rfl)) ?_;refine z_m ?_;refine g_m ?_;refine g_m ?_;refine ZAN [0,1,2,3,4,5] (by kernel_rfl) rfl (ZAB rfl) rfl nb (dF (dF (dF (dF (dF (dF nF)))))) (ZAf rfl rfl rfl rfl rfl Bod.h hpo ?_);refine z_p ?_;refine z_m ?_;refine g_m ?_;refine z_o ?_;refine g_l ?_;refine z_o ?_;refine g_l ?_;refine z_o ?_;refine z_p ?_;refine z_m ?_;refine g_m ?_;refine g_m ?_;refine g_c ?_;refine g_u ?_;refine z_o ?_;refine g_l ?_;refine g_i ?_;refine g_l ?_;refine z_o ?_;refine z_p ?_;refine z_m ?_;refine z_o ?_;refine g_l ?_;refine z_o ?_;refine g_l ?_;refine z_o ?_;refine z_p ?_;refine z_m ?_;refine g_m ?_;refine z_o ?_;refine g_m ?_;refine g_m ?_;refine g_c ?_;refine z_o ?_;refine g_p ?_;refine g_m ?_;refine g_m ?_;refine g_c ?_;refine g_m ?_;refine g_c ?_;refine z_o ?_;refine g_p ?_;refine z_p ?_
   refine ZAY (ZAB rfl) nb' ?_;exact⟨rfl,rfl,rfl,rfl,rfl,rfl,rfl,trivial⟩
  rw[decide_eq_true c2] at hpo;have hol:0<o.length:=List.length_pos_iff.2 c2.1;obtain⟨bo,oo,oao,rfl,hco0⟩:=hO4 0 hol;obtain⟨bo',oo',oao',eo',hco1⟩:=hO4 (o.length-1) (by omega);cases eo';obtain⟨u,hu⟩:∃u,u=o[0]:=⟨_,rfl⟩;obtain⟨v,hv⟩:∃v,v=o[o.length-1]'(by omega):=⟨_,rfl⟩;rw[<-hu] at hco0;rw[<-hv] at hco1
  by_cases c3:u=a
  rotate_left
  ·refine zy ?_
   refine ZAQ hmix [0,1,3,7,15,15,63,127,255,511,1023,2047,511,4607,16383,32767,65535,131071,131071,393215,917503,2097151,4194303,131071,8519679,33554431,67108863,134217727,268435455,536870911,268435455,1342177279,4294967295,8589934591,17179869183,34359738367,68719476735,137438953471,274877906943,549755813887,1099511627775,2199023255551,4398046511103,8796093022207,17592186044415,8796093022207,43980465111039,140737488355327,281474976710655,562949953421311] [0,1,2,3,4,5] (some 6) [([7,8,9,10,11,12,13,14,15,16,17,18,19,20,21,22,23,24,25,26,27,28,29,30,31,32,33,34,35,36,37,38,39,40,41,42,43,44,45,46,47,48,49],none)] (by kernel_rfl) (by kernel_rfl) ?_
   refine z_m ?_;refine z_c ?_;refine ZAA rfl rfl rfl rfl rfl (fun _=>A_tt (by omega) (ZFr rfl rfl)) ?_;refine z_m ?_;refine g_m ?_;refine g_m ?_;refine ZAN [0,1,2,3,4,5] (by kernel_rfl) rfl (ZAB rfl) rfl nb (dF (dF (dF (dF (dF (dF nF)))))) (ZAf rfl rfl rfl rfl rfl Bod.h hpo ?_);refine z_p ?_;refine z_m ?_;refine g_m ?_
   first|refine ZAO rfl rfl rfl rfl ?_|refine ZAA rfl rfl rfl rfl rfl (fun _=>A_ix (k:=0) Und.h Tsz.h rfl rfl hol) ?_
   refine g_l ?_
   first|refine ZAO rfl rfl rfl rfl ?_|refine ZAA rfl rfl rfl rfl rfl (fun _=>ZAi (k:=0) Und.h Tsz.h rfl rfl rfl (by decide)) ?_
   refine g_l ?_
   first|refine ZAO rfl rfl rfl rfl ?_|refine ZAA rfl rfl rfl rfl rfl (fun _=>A_ff c3 (ZAV rfl rfl)) ?_
   refine z_p ?_;refine z_m ?_;refine g_m ?_;refine g_m ?_;refine g_c ?_;refine g_u ?_;refine z_o ?_;refine g_l ?_;refine z_o ?_;refine g_l ?_;refine z_o ?_;refine z_p ?_;refine z_m ?_;refine z_o ?_;refine g_l ?_;refine z_o ?_;refine g_l ?_;refine z_o ?_;refine z_p ?_;refine z_m ?_;refine g_m ?_;refine z_o ?_;refine g_m ?_;refine g_m ?_;refine g_c ?_;refine z_o ?_;refine g_p ?_;refine g_m ?_;refine g_m ?_;refine g_c ?_;refine g_m ?_;refine g_c ?_;refine z_o ?_;refine g_p ?_;refine z_p ?_;refine ZAY (ZAB rfl) nb' ?_;exact⟨rfl,rfl,rfl,rfl,rfl,rfl,rfl,trivial⟩
  by_cases c4:v=b
  rotate_left
  ·refine zy ?_
   refine ZAQ hmix [0,1,3,7,15,15,63,127,255,511,1023,2047,511,4607,16383,32767,65535,131071,131071,393215,917503,2097151,4194303,131071,8519679,33554431,67108863,134217727,268435455,536870911,268435455,1342177279,4294967295,8589934591,17179869183,34359738367,68719476735,137438953471,274877906943,549755813887,1099511627775,2199023255551,4398046511103,8796093022207,17592186044415,8796093022207,43980465111039,140737488355327,281474976710655,562949953421311] [0,1,2,3,4,5] (some 6) [([7,8,9,10,11,12,13,14,15,16,17,18,19,20,21,22,23,24,25,26,27,28,29,30,31,32,33,34,35,36,37,38,39,40,41,42,43,44,45,46,47,48,49],none)] (by kernel_rfl) (by kernel_rfl) ?_
   refine z_m ?_;refine z_c ?_;refine ZAA rfl rfl rfl rfl rfl (fun _=>A_tt (by omega) (ZFr rfl rfl)) ?_;refine z_m ?_;refine g_m ?_;refine g_m ?_;refine ZAN [0,1,2,3,4,5] (by kernel_rfl) rfl (ZAB rfl) rfl nb (dF (dF (dF (dF (dF (dF nF)))))) (ZAf rfl rfl rfl rfl rfl Bod.h hpo ?_);refine z_p ?_;refine z_m ?_;refine g_m ?_
   first|refine ZAO rfl rfl rfl rfl ?_|refine ZAA rfl rfl rfl rfl rfl (fun _=>A_ix (k:=0) Und.h Tsz.h rfl rfl hol) ?_
   refine g_l ?_
   first|refine ZAO rfl rfl rfl rfl ?_|refine ZAA rfl rfl rfl rfl rfl (fun _=>ZAi (k:=0) Und.h Tsz.h rfl rfl rfl (by decide)) ?_
   refine g_l ?_
   first|refine ZAO rfl rfl rfl rfl ?_|refine ZAA rfl rfl rfl rfl rfl (fun _=>A_tt c3 (ZAV rfl rfl)) ?_
   refine z_p ?_;refine z_m ?_;refine g_m ?_;refine g_m ?_;refine g_c ?_;refine g_u ?_
   first|refine ZAO rfl rfl rfl rfl ?_|refine ZAA rfl rfl rfl rfl rfl (fun _=>ZAK (k:=o.length-1) Und.h Tsz.h rfl rfl (by omega) (by omega)) ?_
   refine g_l ?_
   first|refine ZAO rfl rfl rfl rfl ?_|refine ZAA rfl rfl rfl rfl rfl (fun _=>ZAi (k:=1) Und.h Tsz.h rfl rfl rfl (by decide)) ?_
   refine g_l ?_
   first|refine ZAO rfl rfl rfl rfl ?_|refine ZAA rfl rfl rfl rfl rfl (fun _=>A_ff c4 (ZAV rfl rfl)) ?_
   refine z_p ?_;refine z_m ?_;refine z_o ?_;refine g_l ?_;refine z_o ?_;refine g_l ?_;refine z_o ?_;refine z_p ?_;refine z_m ?_;refine g_m ?_;refine z_o ?_;refine g_m ?_;refine g_m ?_;refine g_c ?_;refine z_o ?_;refine g_p ?_;refine g_m ?_;refine g_m ?_;refine g_c ?_;refine g_m ?_;refine g_c ?_;refine z_o ?_;refine g_p ?_;refine z_p ?_;refine ZAY (ZAB rfl) nb' ?_;exact⟨rfl,rfl,rfl,rfl,rfl,rfl,rfl,trivial⟩
  by_cases c5:a=b
  ·refine zy ?_
   refine ZAQ hmix [0,1,3,7,15,15,63,127,255,511,1023,2047,511,4607,16383,32767,65535,131071,131071,393215,917503,2097151,4194303,131071,8519679,33554431,67108863,134217727,268435455,536870911,268435455,1342177279,4294967295,8589934591,17179869183,34359738367,68719476735,137438953471,274877906943,549755813887,1099511627775,2199023255551,4398046511103,8796093022207,17592186044415,8796093022207,43980465111039,140737488355327,281474976710655,562949953421311] [0,1,2,3,4,5] (some 6) [([7,8,9,10,11,12,13,14,15,16,17,18,19,20,21,22,23,24,25,26,27,28,29,30,31,32,33,34,35,36,37,38,39,40,41,42,43,44,45,46,47,48,49],none)] (by kernel_rfl) (by kernel_rfl) ?_
   refine z_m ?_;refine z_c ?_;refine ZAA rfl rfl rfl rfl rfl (fun _=>A_tt (by omega) (ZFr rfl rfl)) ?_;refine z_m ?_;refine g_m ?_;refine g_m ?_;refine ZAN [0,1,2,3,4,5] (by kernel_rfl) rfl (ZAB rfl) rfl nb (dF (dF (dF (dF (dF (dF nF)))))) (ZAf rfl rfl rfl rfl rfl Bod.h hpo ?_);refine z_p ?_;refine z_m ?_;refine g_m ?_
   first|refine ZAO rfl rfl rfl rfl ?_|refine ZAA rfl rfl rfl rfl rfl (fun _=>A_ix (k:=0) Und.h Tsz.h rfl rfl hol) ?_
   refine g_l ?_
   first|refine ZAO rfl rfl rfl rfl ?_|refine ZAA rfl rfl rfl rfl rfl (fun _=>ZAi (k:=0) Und.h Tsz.h rfl rfl rfl (by decide)) ?_
   refine g_l ?_
   first|refine ZAO rfl rfl rfl rfl ?_|refine ZAA rfl rfl rfl rfl rfl (fun _=>A_tt c3 (ZAV rfl rfl)) ?_
   refine z_p ?_;refine z_m ?_;refine g_m ?_;refine g_m ?_;refine g_c ?_;refine g_u ?_
   first|refine ZAO rfl rfl rfl rfl ?_|refine ZAA rfl rfl rfl rfl rfl (fun _=>ZAK (k:=o.length-1) Und.h Tsz.h rfl rfl (by omega) (by omega)) ?_
   refine g_l ?_
   first|refine ZAO rfl rfl rfl rfl ?_|refine ZAA rfl rfl rfl rfl rfl (fun _=>ZAi (k:=1) Und.h Tsz.h rfl rfl rfl (by decide)) ?_
   refine g_l ?_
   first|refine ZAO rfl rfl rfl rfl ?_|refine ZAA rfl rfl rfl rfl rfl (fun _=>A_tt c4 (ZAV rfl rfl)) ?_
   refine z_p ?_;refine z_m ?_
   first|refine ZAO rfl rfl rfl rfl ?_|refine ZAA rfl rfl rfl rfl rfl (fun _=>ZAi (k:=0) Und.h Tsz.h rfl rfl rfl (by decide)) ?_
   refine g_l ?_
   first|refine ZAO rfl rfl rfl rfl ?_|refine ZAA rfl rfl rfl rfl rfl (fun _=>ZAi (k:=1) Und.h Tsz.h rfl rfl rfl (by decide)) ?_
   refine g_l ?_
   first|refine ZAO rfl rfl rfl rfl ?_|refine ZAA rfl rfl rfl rfl rfl (fun _=>A_ff (fun q=>q c5) (ZAj rfl rfl)) ?_
   refine z_p ?_;refine z_m ?_;refine g_m ?_;refine z_o ?_;refine g_m ?_;refine g_m ?_;refine g_c ?_;refine z_o ?_;refine g_p ?_;refine g_m ?_;refine g_m ?_;refine g_c ?_;refine g_m ?_;refine g_c ?_;refine z_o ?_;refine g_p ?_;refine z_p ?_;refine ZAY (ZAB rfl) nb' ?_;exact⟨rfl,rfl,rfl,rfl,rfl,rfl,rfl,trivial⟩
  have hoe:o=o.take (o.length-1)++[b]:=by
   have h1:=List.dropLast_concat_getLast (l:=o) c2.1;rw[List.getLast_eq_getElem,<-hv,c4,List.dropLast_eq_take] at h1;exact h1.symm
  obtain⟨g1,g2⟩:=hFO (o.take (o.length-1)) c2 (by rw[List.getElem?_eq_getElem hol,<-hu,c3]) hoe
  by_cases c6:E=0
  ·have hP0:0<P.length:=List.length_pos_iff.2 (g1 c6)
   refine zy ?_;refine ZAQ hmix [0,1,3,7,15,15,63,127,255,511,1023,2047,511,4607,16383,32767,65535,131071,131071,393215,917503,2097151,4194303,131071,8519679,33554431,67108863,134217727,268435455,536870911,268435455,1342177279,4294967295,8589934591,17179869183,34359738367,68719476735,137438953471,274877906943,549755813887,1099511627775,2199023255551,4398046511103,8796093022207,17592186044415,8796093022207,43980465111039,140737488355327,281474976710655,562949953421311] [0,1,2,3,4,5] (some 6) [([7,8,9,10,11,12,13,14,15,16,17,18,19,20,21,22,23,24,25,26,27,28,29,30,31,32,33,34,35,36,37,38,39,40,41,42,43,44,45,46,47,48,49],none)] (by kernel_rfl) (by kernel_rfl) ?_
   refine z_m ?_;refine z_c ?_;refine ZAA rfl rfl rfl rfl rfl (fun _=>A_tt (by omega) (ZFr rfl rfl)) ?_;refine z_m ?_;refine g_m ?_;refine g_m ?_;refine ZAN [0,1,2,3,4,5] (by kernel_rfl) rfl (ZAB rfl) rfl nb (dF (dF (dF (dF (dF (dF nF)))))) (ZAf rfl rfl rfl rfl rfl Bod.h hpo ?_);refine z_p ?_;refine z_m ?_;refine g_m ?_
   first|refine ZAO rfl rfl rfl rfl ?_|refine ZAA rfl rfl rfl rfl rfl (fun _=>A_ix (k:=0) Und.h Tsz.h rfl rfl hol) ?_
   refine g_l ?_
   first|refine ZAO rfl rfl rfl rfl ?_|refine ZAA rfl rfl rfl rfl rfl (fun _=>ZAi (k:=0) Und.h Tsz.h rfl rfl rfl (by decide)) ?_
   refine g_l ?_
   first|refine ZAO rfl rfl rfl rfl ?_|refine ZAA rfl rfl rfl rfl rfl (fun _=>A_tt c3 (ZAV rfl rfl)) ?_
   refine z_p ?_;refine z_m ?_;refine g_m ?_;refine g_m ?_;refine g_c ?_;refine g_u ?_
   first|refine ZAO rfl rfl rfl rfl ?_|refine ZAA rfl rfl rfl rfl rfl (fun _=>ZAK (k:=o.length-1) Und.h Tsz.h rfl rfl (by omega) (by omega)) ?_
   refine g_l ?_
   first|refine ZAO rfl rfl rfl rfl ?_|refine ZAA rfl rfl rfl rfl rfl (fun _=>ZAi (k:=1) Und.h Tsz.h rfl rfl rfl (by decide)) ?_
   refine g_l ?_
   first|refine ZAO rfl rfl rfl rfl ?_|refine ZAA rfl rfl rfl rfl rfl (fun _=>A_tt c4 (ZAV rfl rfl)) ?_
   refine z_p ?_;refine z_m ?_
   first|refine ZAO rfl rfl rfl rfl ?_|refine ZAA rfl rfl rfl rfl rfl (fun _=>ZAi (k:=0) Und.h Tsz.h rfl rfl rfl (by decide)) ?_
   refine g_l ?_
   first|refine ZAO rfl rfl rfl rfl ?_|refine ZAA rfl rfl rfl rfl rfl (fun _=>ZAi (k:=1) Und.h Tsz.h rfl rfl rfl (by decide)) ?_
   refine g_l ?_
   first|refine ZAO rfl rfl rfl rfl ?_|refine ZAA rfl rfl rfl rfl rfl (fun _=>A_tt c5 (ZAj rfl rfl)) ?_
   refine z_p ?_;refine z_m ?_;refine g_m ?_
   first|refine ZAO rfl rfl rfl rfl ?_|refine ZAA rfl rfl rfl rfl rfl (fun _=>A_tt c6 (ZAt rfl rfl)) ?_
   refine g_m ?_;refine g_m ?_;refine g_c ?_
   first|refine ZAO rfl rfl rfl rfl ?_|refine ZAA rfl rfl rfl rfl rfl (fun _=>A_ff (by omega) (ZAt rfl rfl)) ?_
   refine g_p ?_;refine g_m ?_;refine g_m ?_;refine g_c ?_;refine g_m ?_;refine g_c ?_
   first|refine ZAO rfl rfl rfl rfl ?_|refine ZAA rfl rfl rfl rfl rfl (fun _=>A_ff (by omega) (ZCS rfl rfl)) ?_
   refine g_p ?_;refine z_p ?_;refine ZAY (ZAB rfl) nb' ?_;exact⟨rfl,rfl,rfl,rfl,rfl,rfl,rfl,trivial⟩
  ·refine zy ?_
   refine ZAQ hmix [0,1,3,7,15,15,63,127,255,511,1023,2047,511,4607,16383,32767,65535,131071,131071,393215,917503,2097151,4194303,131071,8519679,33554431,67108863,134217727,268435455,536870911,268435455,1342177279,4294967295,8589934591,17179869183,34359738367,68719476735,137438953471,274877906943,549755813887,1099511627775,2199023255551,4398046511103,8796093022207,17592186044415,8796093022207,43980465111039,140737488355327,281474976710655,562949953421311] [0,1,2,3,4,5] (some 6) [([7,8,9,10,11,12,13,14,15,16,17,18,19,20,21,22,23,24,25,26,27,28,29,30,31,32,33,34,35,36,37,38,39,40,41,42,43,44,45,46,47,48,49],none)] (by kernel_rfl) (by kernel_rfl) ?_
   refine z_m ?_;refine z_c ?_;refine ZAA rfl rfl rfl rfl rfl (fun _=>A_tt (by omega) (ZFr rfl rfl)) ?_;refine z_m ?_;refine g_m ?_;refine g_m ?_;refine ZAN [0,1,2,3,4,5] (by kernel_rfl) rfl (ZAB rfl) rfl nb (dF (dF (dF (dF (dF (dF nF)))))) (ZAf rfl rfl rfl rfl rfl Bod.h hpo ?_);refine z_p ?_;refine z_m ?_;refine g_m ?_
   first|refine ZAO rfl rfl rfl rfl ?_|refine ZAA rfl rfl rfl rfl rfl (fun _=>A_ix (k:=0) Und.h Tsz.h rfl rfl hol) ?_
   refine g_l ?_
   first|refine ZAO rfl rfl rfl rfl ?_|refine ZAA rfl rfl rfl rfl rfl (fun _=>ZAi (k:=0) Und.h Tsz.h rfl rfl rfl (by decide)) ?_
   refine g_l ?_
   first|refine ZAO rfl rfl rfl rfl ?_|refine ZAA rfl rfl rfl rfl rfl (fun _=>A_tt c3 (ZAV rfl rfl)) ?_
   refine z_p ?_;refine z_m ?_;refine g_m ?_;refine g_m ?_;refine g_c ?_;refine g_u ?_
   first|refine ZAO rfl rfl rfl rfl ?_|refine ZAA rfl rfl rfl rfl rfl (fun _=>ZAK (k:=o.length-1) Und.h Tsz.h rfl rfl (by omega) (by omega)) ?_
   refine g_l ?_
   first|refine ZAO rfl rfl rfl rfl ?_|refine ZAA rfl rfl rfl rfl rfl (fun _=>ZAi (k:=1) Und.h Tsz.h rfl rfl rfl (by decide)) ?_
   refine g_l ?_
   first|refine ZAO rfl rfl rfl rfl ?_|refine ZAA rfl rfl rfl rfl rfl (fun _=>A_tt c4 (ZAV rfl rfl)) ?_
   refine z_p ?_;refine z_m ?_
   first|refine ZAO rfl rfl rfl rfl ?_|refine ZAA rfl rfl rfl rfl rfl (fun _=>ZAi (k:=0) Und.h Tsz.h rfl rfl rfl (by decide)) ?_
   refine g_l ?_
   first|refine ZAO rfl rfl rfl rfl ?_|refine ZAA rfl rfl rfl rfl rfl (fun _=>ZAi (k:=1) Und.h Tsz.h rfl rfl rfl (by decide)) ?_
   refine g_l ?_
   first|refine ZAO rfl rfl rfl rfl ?_|refine ZAA rfl rfl rfl rfl rfl (fun _=>A_tt c5 (ZAj rfl rfl)) ?_
   refine z_p ?_;refine z_m ?_;refine g_m ?_
   first|refine ZAO rfl rfl rfl rfl ?_|refine ZAA rfl rfl rfl rfl rfl (fun _=>A_ff c6 (ZAt rfl rfl)) ?_
   refine g_m ?_;refine g_m ?_;refine g_c ?_;refine z_o ?_;refine g_p ?_;refine g_m ?_;refine g_m ?_;refine g_c ?_;refine g_m ?_;refine g_c ?_
   first|refine ZAO rfl rfl rfl rfl ?_|refine ZAA rfl rfl rfl rfl rfl (fun _=>A_ff (by omega) (ZCS rfl rfl)) ?_
   refine g_p ?_;refine z_p ?_;refine ZAY (ZAB rfl) nb' ?_;exact⟨rfl,rfl,rfl,rfl,rfl,rfl,rfl,trivial⟩
 rintro _ m _ _ ⟨rfl,rfl,rfl,hall⟩
 show Wc _ _ _ _ _ _ _
 refine Wc.le ?_ (Le.kn hall);clear hall;refine zy ?_;have hCl:C.length<=200:=by omega
 refine ZAS (fun (j:Nat) m ds h'=>ds=[]/\Ext h4 h'/\j<=S.length/\AllK m [(0,.slice ad l.length cap),(7,.slice aS S.length cS),(12,.slice a4 C.length k4),(14,i64 ((clsL S (S.take j)).length:Nat)),(15,i64 (j:Nat))]) (fun j=>S.length-j) 0 ?_ ?_
 ·exact⟨rfl,Ext.refl _,Nat.zero_le _,rfl,rfl,rfl,rfl,rfl,trivial⟩
 rintro j m ds h5 ⟨rfl,hE5,hj,hall⟩;refine Wc.le ?_ (Le.kn hall);clear hall;refine zy ?_;refine ZAW rfl rfl rfl rfl (ZAd rfl rfl) (fun hjl=>?_) (fun hjl=>?_);rotate_left
 ·have:j=S.length:=by omega
  subst this;rw[List.take_length,hCC];refine zy ?_;refine ZAC rfl rfl rfl rfl (A_tt rfl (ZAt rfl rfl)) ?_;refine zy ?_;refine ZAT rfl rfl rfl rfl rfl Bod.h rfl rfl (ZA6 (hL4.ext hE5)) fun h6 hE6=>?_;refine zy ?_;exact ZAF (ZAH rfl ⟨rfl,(hE4.trans hE5).trans hE6⟩)
 have hj':j<S.length:=by omega
 have htk:clsL S (S.take (j+1))=clsL S (S.take j)++if S[j].kind=3 then clF S S[j] else []:=by
  rw[List.take_add_one,List.getElem?_eq_getElem hj'];exact ZKn _ _ _
 have hnx:=ZOf (S:=S) (L:=S) (List.getElem?_eq_getElem hj');rw[hCC] at hnx;have hkl:(clsL S (S.take j)).length<=200:=by
  have:=ZMo S (S.take j);rw[List.length_take] at this;omega
 have hxm:=List.getElem_mem hj';have hxs:=hFR _ hxm;have hxf:=hfitp _ hxm;have hxa:S[j].kind=3->S[j].a∈nodW S:=fun q=>ZJT hxm q;obtain⟨bS,oS,oaS,rfl,row,hrow0,hx⟩:=hSS.1 j hj';have hrow:=hE5.row hrow0;have ex:row=rowW S[j]:=hx;clear hx hrow0;generalize S[j]=x at *;subst ex;have hc3:ZAZ h5 bS (oS+j*6+3)=some (i64 x.kind):=ZAM (k:=3) hrow rfl;have hc4:ZAZ h5 bS (oS+j*6+4)=some (str x.a):=ZAM (k:=4) hrow rfl;have hc5:ZAZ h5 bS (oS+j*6+5)=some (str x.b):=ZAM (k:=5) hrow rfl;refine zy ?_;refine ZAC rfl rfl rfl rfl (A_ix Und.h Tsz.h rfl rfl) ?_;refine zy ?_
 by_cases c3:x.kind=3
 rotate_left
 ·rw[if_neg c3,List.append_nil] at htk
  refine ZAC rfl rfl rfl rfl (A_tt c3 (ZAy rfl rfl)) ?_;refine zy ?_;exact⟨j+1,(by show S.length-(j+1)<S.length-j;omega),rfl,hE5,hj',rfl,rfl,rfl,(by rw[htk];rfl),rfl,trivial⟩
 rw[if_pos c3] at htk hnx;refine ZAC rfl rfl rfl rfl (A_ff (fun q=>q c3) (ZAy rfl rfl)) ?_;have hsm:=hSame x ad h5 (hR4.ext hE5) (hL4.ext hE5) hxf.1 hxf.2;rw[hxs c3] at hsm
 dsimp only at hsm
 refine zy ?_;refine ZAQ hmix [0,0,0,6,14,30,0,0,192,448,960,2047,4095,8191,8191,16383,65535] [0,1,2,3,4,5,6,7,8,9,10] (some 11) [([12,13,14],(some 15)),([],(some 16)),([],none)] (by kernel_rfl) (by kernel_rfl) ?_;refine z_m ?_;refine z_m ?_;refine z_m ?_;refine ZAA rfl rfl rfl rfl rfl (fun _=>A_ix (k:=j) Und.h Tsz.h rfl rfl) ?_;refine z_f ?_;refine z_l ?_;refine z_m ?_;refine z_m ?_;refine ZAA rfl rfl rfl rfl rfl (fun _=>A_ix (k:=j) Und.h Tsz.h rfl rfl) ?_;refine z_f ?_;refine z_l ?_;refine ZAN [0,1,2,3,4,5,6,7,8,9,10] (by kernel_rfl) rfl (ZAB rfl) rfl nb (dF (dF (dF (dF (dF (dF (dF (dF (dF (dF (dF nF))))))))))) (ZIz rfl rfl rfl rfl rfl Bod.h hsm (fun v6 h6 hv=>?_))
 obtain⟨v7,rfl,hF6,hE56⟩:=hv;have hrow6:=hE56.row hrow;have hd3:ZAZ h6 bS (oS+j*6+3)=some (i64 x.kind):=ZAM (k:=3) hrow6 rfl;have hd4:ZAZ h6 bS (oS+j*6+4)=some (str x.a):=ZAM (k:=4) hrow6 rfl;have hd5:ZAZ h6 bS (oS+j*6+5)=some (str x.b):=ZAM (k:=5) hrow6 rfl;refine z_m ?_;refine z_e ?_;refine z_e ?_;refine ZAN [0,1,2,3,4,5,6,7,8,9,10,11,12,13] (by kernel_rfl) rfl (ZAB rfl) rfl nb (kF (dF (dF nF))) (ZEU rfl rfl (ZBL rfl) ?_);refine ZAN [0,1,2,3,4,5,6,7,8,9,10,11,12,13,14,15] (by kernel_rfl) rfl (by refine t_e 14 ?_;exact ZAB rfl) rfl nb (dF nF) (ZEU rfl rfl (ZBL rfl) ?_);refine ZAY (ZAB rfl) nb' ?_
 have hE6:=hE5.trans hE56;have hpl:=ZHf (b:=x.b) (hxa c3);have hnd:=ZFw S;have hwx:=hway x.a x.b (hxa c3);unfold clF at htk hnx;generalize ZAs (nxtW S) x.a x.b (nodW S).length=Q at *;have hlQ:Len Q:=by have:=hSl;show _<_;omega
 obtain⟨aQ,rfl,-,hQ6⟩:=ZAD.list (enc:=str) hF6;refine zy ?_;refine ZAC rfl rfl rfl rfl (A_ff (fun q=>q rfl) (ZAy rfl rfl)) ?_;refine zy ?_
 by_cases hQ:Q=[]
 ·rw[if_pos hQ,List.append_nil] at htk
  refine ZAC rfl rfl rfl rfl (A_tt (by rw[hQ];rfl) (ZAt rfl rfl)) ?_;refine zy ?_;exact⟨j+1,(by show S.length-(j+1)<S.length-j;omega),rfl,hE6,hj',rfl,rfl,rfl,(by rw[htk];rfl),rfl,trivial⟩
 rw[if_neg hQ] at htk hnx;have hQ0:0<Q.length:=List.length_pos_iff.2 hQ;refine ZAC rfl rfl rfl rfl (A_ff (by omega) (ZAt rfl rfl)) ?_;obtain⟨R,hnx⟩:=hnx;obtain⟨kk,hkk⟩:∃kk,kk=(clsL S (S.take j)).length:=⟨_,rfl⟩;have hkC:kk<C.length:=by rw[hnx,hkk];simp
 have hCk:C[kk]=(x.key,Q):=by
  have:C[kk]?=some (x.key,Q):=by rw[hnx,hkk];simp
  rw[List.getElem?_eq_getElem hkC] at this;exact Option.some.inj this
 rw[<-hkk];rw[<-hkk] at hkl;have hcl2:(clsL S (S.take (j+1))).length=kk+1:=by rw[htk,List.length_append,<-hkk];rfl
 obtain⟨b8,o8,oa8,rfl,row8,hr8,ac8,kc8,hx8,hl8⟩:=(ZA0.ext (fun hr hE=>hr.ext hE) hC4 hE6) kk hkC;rw[hCk] at hx8 hl8;subst hx8;have hk1:ZAq h6 b8 (o8+kk*3+0) 2=some (rowK x.key):=ZRT hr8;have hs1:ZAZ h6 b8 (o8+kk*3+2)=some (.slice ac8 Q.length kc8):=ZAM (k:=2) hr8 rfl;have hd0:ZAZ h6 bS (oS+j*6+0)=some (str x.archive):=ZAM (k:=0) hrow6 rfl;have hd1:ZAZ h6 bS (oS+j*6+1)=some (i64 x.number):=ZAM (k:=1) hrow6 rfl;have hpo:=hprv Q aQ Q.length h6 hE6 hQ6 hlQ;rw[decide_eq_true (hwx hQ)] at hpo;refine zy ?_;refine ZAQ hmix [0,0,2,7,15,31,31,127,255,511,31,31,3103,7199,15391,31,31,98335,229407,491551,1047583,2097151,4194303,8388607,16777215,16777215,67108863,134217727,268435455,16777215,1073741823,2147483647,4294967295,8589934591,17179869183,17179869183,68719476735,137438953471,274877906943] [0,1,2,3,4,5,6,7,8,9,10,11,12,13,14,15,16,17,18,19,20,21,22,23,24,25,26,27,28,29] (some 30) [([31,32,33,34,35],(some 36)),([37,38],none)] (by kernel_rfl) (by kernel_rfl) ?_
 refine z_m ?_;refine z_m ?_;refine z_c ?_;refine ZAA rfl rfl rfl rfl rfl (fun _=>A_ff (by omega) (ZLa rfl rfl)) ?_;refine z_m ?_;refine g_m ?_;refine g_m ?_
 first|refine ZAO rfl rfl rfl rfl ?_|refine ZAA rfl rfl rfl rfl rfl (fun _=>A_ix (k:=kk) Und.h Tsz.h rfl rfl hkC) ?_
 refine g_f ?_;refine g_r ?_;refine g_m ?_;refine g_m ?_
 first|refine ZAO rfl rfl rfl rfl ?_|refine ZAA rfl rfl rfl rfl rfl (fun _=>A_ix (k:=j) Und.h Tsz.h rfl rfl hj') ?_
 refine g_f ?_;refine g_l ?_;refine g_m ?_;refine g_m ?_
 first|refine ZAO rfl rfl rfl rfl ?_|refine ZAA rfl rfl rfl rfl rfl (fun _=>A_ix (k:=j) Und.h Tsz.h rfl rfl hj') ?_
 refine g_f ?_;refine g_l ?_;refine g_b ?_
 first|refine ZAO rfl rfl rfl rfl ?_|refine ZAA rfl rfl rfl rfl rfl (fun _=>A_ff (show ¬¬x.key=x.key from fun q=>q rfl) (ZM6 keyK rfl rfl keyG rfl rfl)) ?_
 refine z_p ?_;refine z_m ?_;refine g_m ?_;refine g_m ?_
 first|refine ZAO rfl rfl rfl rfl ?_|refine ZAA rfl rfl rfl rfl rfl (fun _=>A_ix (k:=kk) Und.h Tsz.h rfl rfl hkC) ?_
 refine g_f ?_;refine g_l ?_;refine g_m ?_;refine ZAN [0,1,2,3,4,5,6,7,8,9,10,11,12,13,14,15,16,17,18,19,20,21,22,23,24,25,26,27,28,29] (by kernel_rfl) rfl (ZAB rfl) rfl nb (dF (dF (dF (dF (dF (dF (dF (dF (dF (dF (dF (dF (dF (dF (dF (dF (dF (dF (dF (dF (dF (dF (dF (dF (dF (dF (dF (dF (dF (dF nF)))))))))))))))))))))))))))))) (ZAf rfl rfl rfl rfl rfl Bod.h (ZFP hl8 hQ6 hlQ) ?_);refine g_n ?_;refine z_p ?_;refine z_m ?_;refine g_m ?_;refine g_m ?_;refine ZAN [0,1,2,3,4,5,6,7,8,9,10,11,12,13,14,15,16,17,18,19,20,21,22,23,24,25,26,27,28,29,30,31,32,33,34,35] (by kernel_rfl) rfl (ZAB rfl) rfl nb (dF (dF (dF (dF (dF nF))))) (ZAf rfl rfl rfl rfl rfl Bod.h hpo ?_)
 refine g_n ?_;refine z_p ?_;refine ZAY (ZAB rfl) nb' ?_;refine zy ?_;exact⟨j+1,(by show S.length-(j+1)<S.length-j;omega),rfl,hE6,hj',rfl,rfl,rfl,(by rw[hcl2];rfl),rfl,trivial⟩
end Go.Dw
