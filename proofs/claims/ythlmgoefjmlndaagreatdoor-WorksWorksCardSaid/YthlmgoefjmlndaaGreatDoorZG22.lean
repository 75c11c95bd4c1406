/- ME1: contracts: the names and the items of a work, as the reference finds them (tied). -/
import Derived.Test.YthlmgoefjmlndaaGreatDoorZG2
import Derived.Test.YthlmgoefjmlndaaGreatDoorZG21
import Derived.Test.YthlmgoefjmlndaaGreatDoorZG8
import Derived.Test.YthlmgoefjmlndaaGreatDoorZG17
import Derived.Test.YthlmgoefjmlndaaGreatDoorZG20
import Derived.Test.YthlmgoefjmlndaaGreatDoorZG18
set_option linter.unusedVariables false
set_option linter.unusedSimpArgs false
namespace Go.Dw
open Go Go.Dx Go.Proofs
set_option maxRecDepth 100000
def ZTg (S:List WkR)(a:Str)(h:Heap)(v:Value)(h':Heap):Prop:=∃v1 v2,v=.tuple ⟨[v1,v2]⟩/\Own h h' [slI h v1 9 1 ((nmQ (ZCe S a)).map str) (nmQ (ZCe S a)).length,slI h v2 9 1 ((imQ (ZCe S a)).map str) (imQ (ZCe S a)).length]
abbrev tiX (h:Heap)(v9 v8 v6 v7:Value)(M:List Str)(c:Nat):List It :=
 [quI v9 9 1 ((M.drop c).map str) (M.length-c),slI h v8 9 1 ((mrgU ltB M).map str) (mrgU ltB M).length,slI h v6 9 1 ((nmQ M).map str) (nmQ M).length,slI h v7 9 1 ((imQ M).map str) (imQ M).length]
abbrev tiX' (h:Heap)(v9 v8 v6 v7:Value)(M M':List Str)(c:Nat):List It :=
 [quI v9 9 1 ((M.drop c).map str) (M.length-c),slI h v8 9 1 ((mrgU ltB M).map str) (mrgU ltB M).length,slI h v6 9 1 ((nmQ M').map str) (nmQ M').length,slI h v7 9 1 ((imQ M').map str) (imQ M').length]
theorem ZQx {z:Str}(hz:z≠[]):ZAo z=true ↔ ∃h:0<z.length,z[0]=35:=by
 cases z with
 | nil=>exact absurd rfl hz
 | cons c r=>simp[ZAo]
set_option maxHeartbeats 4000000 in
theorem ZSl {ad:Option Addr}{cap:Nat}{S:List WkR}{h:Heap}{a:Str}(hR:ZC1 h ad S)(hf:∀x∈S,x.Fit)(hlen:S.length<=200)(ha:a∈nodW S)(hah:ZAo a=false)(hne:∀k∈nodW S,k≠[])(hnl:(nodW S).length<=10000) :
  Sv Tryz.prog 68 [.slice ad S.length cap,str a] h (RetP fun v h'=>ZTg S a h v h'/\Ext h h'):=by
 refine ZCi fun hw=>?_;have hbl:=fun i=>ZMM ha i;have hbn:∀i,∀e∈bfsQ (nxtW S) a i,e.1∈nodW S:=fun i=>ZMS ha (fun v _ z hz=>ZDL hz) i;have hqk:=fun i=>QOK.bfs (nxtW S) a i;refine ZAG Tryz.func68 rfl (by rw[Tryz.ntmps68];rfl) ?_;show Wc Tryz.prog ⟨68,75,none⟩ _ _ _ _ _;refine zy ?_;refine ZBW rfl rfl Und.h Tsz.h Zr.h rfl rfl rfl rfl rfl fun h1 hE1 hW1 hg1 hn1=>?_;have hO1:=(Own.nil h h).newSl hw (Nat.le_refl _) hE1 (ZAA.lit (n:=1) (sz:=1) hg1 rfl (Nat.le_refl _));generalize h.nx=b1 at hO1 hg1 ⊢;refine zy ?_;refine ZBW rfl rfl Und.h Tsz.h Zr.h rfl rfl rfl rfl rfl fun h2 hE2 hW2 hg2 hn2=>?_;have hO2:=hO1.newSl hW1 hE1.2.1 hE2 (ZAA.lit (n:=0) (sz:=1) hg2 rfl (Nat.le_refl _))
 have hE12:=hE1.trans hE2;generalize h1.nx=b2 at hO2 hg2 ⊢;refine zy ?_;refine ZBW rfl rfl Und.h Tsz.h Zr.h rfl rfl rfl rfl rfl fun h3 hE3 hW3 hg3 hn3=>?_;have hO3:=hO2.newSl hW2 hE12.2.1 hE3 (ZAA.lit (n:=1) (sz:=1) hg3 rfl (Nat.le_refl _));have hE13:=hE12.trans hE3;generalize h2.nx=b3 at hO3 hg3 ⊢;refine zy ?_;refine ZBW rfl rfl Und.h Tsz.h Zr.h rfl rfl rfl rfl rfl fun h4 hE4 hW4 hg4 hn4=>?_;have hO4:=hO3.newQu hW3 hE13.2.1 hE4 (n:=1) (sz:=1) hg4 rfl (Nat.le_refl _);have hE14:=hE13.trans hE4;generalize h3.nx=b4 at hO4 hg4 ⊢;have hO:Own h h4 (tiX h (.slice (some ⟨b4,0,none⟩) 1 1) (.slice (some ⟨b3,0,none⟩) 1 1) (.slice (some ⟨b1,0,none⟩) 1 1) (.slice (some ⟨b2,0,none⟩) 0 0) ((bfsQ (nxtW S) a 0).map Prod.fst) 0):=by
  have e1:nmQ ((bfsQ (nxtW S) a 0).map Prod.fst)=[a]:=by
   show mrgU ltB ([a].filter fun k=>!ZAo k)=[a]
   simp[hah];rfl
  have e2:imQ ((bfsQ (nxtW S) a 0).map Prod.fst)=[]:=by
   show mrgU ltB (([a].filter ZAo).map (List.drop 1))=[]
   simp[hah];rfl
  unfold tiX;rw[e1,e2]
  exact hO4.perm (by
   refine .cons _ (.cons _ ?_);exact List.Perm.swap _ _ _)
 clear hO1 hO2 hO3 hO4 hE1 hE2 hE3 hE4 hg1 hg2 hg3 hg4 hE12 hE13 hn1 hn2 hn3 hn4 hW1 hW2 hW3;refine zy ?_
 refine ZAQ (fun (st:Nat×Value×Value×Value×Value) m ds h'=>ds=[]/\Ext h h'/\Own h h' (tiX h st.2.1 st.2.2.1 st.2.2.2.1 st.2.2.2.2 ((bfsQ (nxtW S) a st.1).map Prod.fst) st.1)/\st.1<=(bfsQ (nxtW S) a st.1).length ∧
   AllK m [(0,.slice ad S.length cap),(1,str a),(6,st.2.2.2.1),(7,st.2.2.2.2),(8,st.2.2.1),(9,st.2.1)]) (fun st=>(nodW S).length-st.1) (0,.slice (some ⟨b4,0,none⟩) 1 1,.slice (some ⟨b3,0,none⟩) 1 1,.slice (some ⟨b1,0,none⟩) 1 1,.slice (some ⟨b2,0,none⟩) 0 0) ?_ ?_
 ·exact⟨rfl,hE14,hO,Nat.zero_le _,rfl,rfl,rfl,rfl,rfl,rfl,trivial⟩
 clear hO hE14 hW4;rintro⟨c,v9,v8,v6,v7⟩ m ds h1 ⟨rfl,hE1,hO1,hcl,hall⟩;simp only at hO1 hcl hall;have hcb:=hbl c;have hml:((bfsQ (nxtW S) a c).map Prod.fst).length=(bfsQ (nxtW S) a c).length:=List.length_map ..;have hQ9:ZJW h1 v9 9 1 _ _:=hO1.p1;obtain⟨b9,o9,oa9,rfl,-,hc9⟩:=hQ9.is;clear hQ9;refine Wc.le ?_ (Le.kn hall);clear hall;refine zy ?_;refine ZAM rfl rfl rfl rfl (ZCN rfl rfl) (fun hgt=>?_) (fun hgt=>?_);rotate_left
 ·have hend:(bfsQ (nxtW S) a c).length<=c:=by omega
  have hce:=ZQN (k:=a) (by omega) hend;rw[hce] at hO1;refine zy ?_;exact ZAE (ZAF rfl ⟨⟨_,_,rfl,hO1.tail.tail⟩,hE1⟩)
 have hsuc:∀e,(bfsQ (nxtW S) a c)[c]?=some e->bfsQ (nxtW S) a (c+1)=ZNk (nxtW S) (bfsQ (nxtW S) a c) e.1:=fun e he=>by
  rw[bfsQ,he]
 have hqc:=hqk c;have hbnc:=hbn c;generalize hQ0:bfsQ (nxtW S) a c=Q0 at *;have hcj:c<Q0.length:=by omega
 have he0:Q0[c]?=some Q0[c]:=List.getElem?_eq_getElem hcj;replace hsuc:=hsuc _ he0;have hmem:Q0[c]∈Q0:=List.getElem_mem hcj;have hvm:Q0[c].1∈Q0.map Prod.fst:=List.mem_map.2 ⟨_,hmem,rfl⟩;have hdc:(Q0.map Prod.fst).drop c=Q0[c].1::(Q0.map Prod.fst).drop (c+1):=by
  rw[List.drop_eq_getElem_cons (by omega),List.getElem_map]
 have hc0:ZAa h1 b9 (o9+0*1)=some (str Q0[c].1):=by
  have:=hc9 0 (by rw[List.length_map,List.length_drop];omega);rw[this];simp only[hdc,List.map_cons,List.getElem_cons_zero]
 have hen:Q0[c].1∈nodW S:=hbnc _ hmem;clear hc9;obtain⟨n9,hn9⟩:∃n9,(Q0.map Prod.fst).length-c=n9+1:=⟨Q0.length-c-1,by omega⟩;have hn9':n9=(Q0.map Prod.fst).length-(c+1):=by omega
 unfold tiX at hO1;rw[hdc,List.map_cons] at hO1;generalize heg:Q0[c].1=e at *;have hpos:0<(Q0.map Prod.fst).length-c:=by omega
 refine zy ?_;refine ZAC rfl rfl rfl rfl (A_ix (k:=0) Und.h Tsz.h rfl rfl hpos) ?_;refine zy ?_;refine ZBY fun hw1=>?_;refine ZAI rfl rfl rfl rfl rfl Bod.h rfl rfl (ZSe (k:=e) (hR.ext hE1) hf (by omega)) ?_;rintro v10 h2 ⟨hF10,hE12⟩;have hO2:=(hO1.newSl hw1 hE1.2.1 hE12 hF10).up2;have hE2:=hE1.trans hE12;rw[hn9] at hO2;rw[hn9];clear hO1;refine zy ?_;refine ZQA rfl rfl Und.h Tsz.h (by decide) rfl hO2 fun v9 hO2=>?_;rw[show (str e::((Q0.map Prod.fst).drop (c+1)).map str).drop 1=((Q0.map Prod.fst).drop (c+1)).map str from rfl,hn9'] at hO2;have hnb:∀m,∀q∈((nxtW S e).take m).foldl (addQ e) Q0,q.1∈nodW S:=fun m=>ZIn _ hbnc (fun z hz=>ZDL (List.mem_of_mem_take hz))
 have hqo:∀m,QOK a (((nxtW S e).take m).foldl (addQ e) Q0):=fun m=>QOK.fold _ hqc hvm
 have hql:∀m,(((nxtW S e).take m).foldl (addQ e) Q0).length<=(nodW S).length:=fun m=>by
  have:=ZBT (hqo m).nd (fun x hx=>by
   obtain⟨q,hq,rfl⟩:=List.mem_map.1 hx;exact hnb m q hq)
  rwa [List.length_map] at this
 have hnl12:(nxtW S e).length<=1000:=Nat.le_trans (ZRJ _ _) (by omega);have hO2':Own h h2 (tiX h v9 v8 v6 v7 (Q0.map Prod.fst) (c+1)++[slI h v10 9 1 ((nxtW S e).map str) (nxtW S e).length]):=hO2.perm (.cons _ (List.perm_append_comm (l₁:=[_])));refine zy ?_
 refine ZAQ (fun (st:Nat×Value×Value×Value×Value) m ds h'=>ds=[]/\Ext h h'/\st.1<=(nxtW S e).length/\Own h h' (tiX h st.2.1 st.2.2.1 st.2.2.2.1 st.2.2.2.2 ((((nxtW S e).take st.1).foldl (addQ e) Q0).map Prod.fst) (c+1)++[slI h v10 9 1 ((nxtW S e).map str) (nxtW S e).length]) ∧
   AllK m [(0,.slice ad S.length cap),(1,str a),(6,st.2.2.2.1),(7,st.2.2.2.2),(8,st.2.2.1),(9,st.2.1),(10,v10),(11,i64 st.1)]) (fun st=>(nxtW S e).length-st.1) (0,v9,v8,v6,v7) ?_ ?_
 ·exact⟨rfl,hE2,Nat.zero_le _,hO2',rfl,rfl,rfl,rfl,rfl,rfl,rfl,rfl,trivial⟩
 clear hO2 hO2' hE1 hE2 hE12 hF10 hw1 hc0;rintro⟨k,v9,v8,v6,v7⟩ m ds h3 ⟨rfl,hE3,hk,hO3,hall⟩;simp only at hk hO3 hall;have hF10:ZAA h h3 v10 9 1 ((nxtW S e).map str) (nxtW S e).length:=hO3.at 4 rfl;obtain⟨a10,hv10,-,hl10⟩:=ZAA.list (enc:=str) hF10;subst hv10;refine Wc.le ?_ (Le.kn hall);clear hall;refine zy ?_;refine ZAM rfl rfl rfl rfl (ZAY rfl rfl) (fun hkl=>?_) (fun hkl=>?_);rotate_left
 ·have hkk:k=(nxtW S e).length:=by omega
  subst hkk;rw[List.take_length] at hO3;have hst:bfsQ (nxtW S) a (c+1)=(nxtW S e).foldl (addQ e) Q0:=hsuc;refine zy ?_;refine⟨(c+1,v9,v8,v6,v7),(by show (nodW S).length-(c+1)<(nodW S).length-c;omega),rfl,hE3,?_,?_,rfl,rfl,rfl,rfl,rfl,rfl,trivial⟩
  ·simp only
   rw[hst];exact hO3.sub (List.sublist_append_left _ _)
  ·simp only
   rw[hst];obtain⟨T,hT⟩:=ZEA e (nxtW S e) Q0;rw[hT,List.length_append];omega
 have hk':k<(nxtW S e).length:=by omega
 have htk:((nxtW S e).take (k+1)).foldl (addQ e) Q0=addQ e (((nxtW S e).take k).foldl (addQ e) Q0) (nxtW S e)[k]:=by
  rw[List.take_add_one,List.getElem?_eq_getElem hk',List.foldl_append];rfl
 have hz0:=hne _ (ZDL (List.getElem_mem hk'));obtain⟨b10,o10,oa10,rfl,hcz0⟩:=hl10 k hk';have hzi:((nxtW S e).map str)[k]?=some (str (nxtW S e)[k]):=by rw[List.getElem?_map,List.getElem?_eq_getElem hk'];rfl
 have hqlk:=hql k;have hcQ:c+1<=(((nxtW S e).take k).foldl (addQ e) Q0).length:=by
  obtain⟨T,hT⟩:=ZEA e ((nxtW S e).take k) Q0;rw[hT,List.length_append];omega
 generalize ((nxtW S e).take k).foldl (addQ e) Q0=Qk at *;generalize (nxtW S e)[k]=z at *;have hF8:ZAA h h3 v8 9 1 ((mrgU ltB (Qk.map Prod.fst)).map str) (mrgU ltB (Qk.map Prod.fst)).length:=hO3.at 1 rfl;have hl8:(mrgU ltB (Qk.map Prod.fst)).length<=10000:=Nat.le_trans (ZBJ ZAL _) (by rw[List.length_map];omega);obtain⟨a8,hv8,-,hls8⟩:=ZAA.list (enc:=str) hF8;subst hv8;have hdec:decide (z∈mrgU ltB (Qk.map Prod.fst))=decide (z∈Qk.map Prod.fst):=decide_eq_decide.2 (ZBM ZAL);have hhs:=ZLm (cap:=(mrgU ltB (Qk.map Prod.fst)).length) (k:=z) hls8 (show _<_ by omega);rw[hdec] at hhs;refine zy ?_;refine ZAC rfl rfl rfl rfl (A_ix Und.h Tsz.h rfl rfl) ?_
 refine zy ?_
 by_cases hm:z∈Qk.map Prod.fst
 ·rw[decide_eq_true hm] at hhs
  rw[ZK5 hm] at htk;refine ZAT rfl rfl rfl rfl rfl Bod.h rfl rfl hhs ?_;refine zy ?_;refine⟨(k+1,v9,_,v6,v7),(by show (nxtW S e).length-(k+1)<(nxtW S e).length-k;omega),rfl,hE3,hk',?_,rfl,rfl,rfl,rfl,rfl,rfl,rfl,rfl,trivial⟩;simp only;rw[htk];exact hO3
 rw[decide_eq_false hm] at hhs;have htk':(((nxtW S e).take (k+1)).foldl (addQ e) Q0).map Prod.fst=Qk.map Prod.fst++[z]:=by
  rw[htk,ZIy hm]
 have hMl:(Qk.map Prod.fst).length<=10000:=by rw[List.length_map];omega
 have hMc:c+1<=(Qk.map Prod.fst).length:=by rw[List.length_map];exact hcQ
 generalize Qk.map Prod.fst=M at *;refine ZAT rfl rfl rfl rfl rfl Bod.h rfl rfl hhs ?_;refine zy ?_;refine ZDs fun hw3=>?_;have hEr:=Ext.rsv h3;have hner:=hO3.up2.ne hw3 (Nat.le_refl h3.nx);have hn3:=hE3.2.1;have hc3:=ZEK (hO3.at 4 rfl:ZAA h h3 (.slice (some ⟨b10,o10,oa10⟩) _ _) 9 1 _ _) hzi;have hc3r:ZAa (rsv h3) b10 (o10+k*1)=some (str z):=hc3;refine zy ?_;refine ZAS hmix [0,0,0,6,14,31,0,0,0,384,896,1920,4095,8191,16383] [0,1,2,3,4,6,7,8,9,10,11] (some 5) [([],(some 12)),([],(some 13)),([],(some 14)),([],none)] (by kernel_rfl) (by kernel_rfl) ?_;refine z_m ?_;refine z_m ?_;refine z_m ?_;refine ZAD rfl rfl rfl rfl rfl (fun _=>A_ix (k:=k) Und.h Tsz.h rfl rfl) ?_;refine z_l ?_;refine z_m ?_;refine z_m ?_;refine z_m ?_;refine ZAD rfl rfl rfl rfl rfl (fun _=>A_ix (k:=k) Und.h Tsz.h rfl rfl) ?_;refine z_l ?_
 refine ZDz (nk:=.sl _ _) rfl rfl rfl rfl rfl (fun _ _ hs=>N_bs hs Und.h Tsz.h Zr.h rfl rfl rfl rfl rfl) ?_;refine ZAK (h1:=(rsv h3)) [0,1,2,3,4] (by kernel_rfl) rfl (ZAB rfl) rfl rfl (kF (kF (kF (kF (kF (kF (dF (dF (dF (dF (dF nF))))))))))) (ZBl (ZIu rfl rfl rfl rfl rfl Bod.h (ZCb (y:=z) (hF8.ext hEr) (hE3.trans hEr) (by omega)) (fun v8' h4 hv hw4=>?_)));obtain⟨hF8',hE34,hv8'⟩:=hv;have hE4:=(hE3.trans hEr).trans hE34;have hn4:h3.nx<h4.nx:=hE34.2.1;have hO4:Own h h4 (slI h v8' 9 1 ((insU ltB z (mrgU ltB M)).map str) (insU ltB z (mrgU ltB M)).length::_):=(hO3.ext hEr).up2.putS (hw3.rsv) (Nat.le_succ_of_le hn3) hE34 hF8' hv8'
 have hne4:∀x∈slI h v8' 9 1 ((insU ltB z (mrgU ltB M)).map str) (insU ltB z (mrgU ltB M)).length::_,∀c,x.S c->c≠h3.nx:=fun x hx c hc=>by
  rcases List.mem_cons.1 hx with rfl|hx
  ·rcases hv8' with rfl|g
   ·exact hner _ List.mem_cons_self c hc
   ·have:h3.nx+1<=c:=g c hc
    omega
  ·exact hner x (List.mem_cons_of_mem _ hx) c hc
 have hO4':=(hO4.other (.cells [str z] 9 false) hne4).up2;have hU4:=Upd.mk' h4 h3.nx (.cells [str z] 9 false);have hE4':=hU4.ext hE4 hw hn3;have hc4:=ZEK (hO4.at 4 rfl:ZAA h h4 (.slice (some ⟨b10,o10,oa10⟩) _ _) 9 1 _ _) hzi;have hc4':=ZEK (hO4'.at 4 rfl:ZAA h _ (.slice (some ⟨b10,o10,oa10⟩) _ _) 9 1 _ _) hzi;clear hO4 hne4 hO3 hner;refine ZAK (h1:=(h4.set h3.nx (.cells [str z] 9 false))) [0,1,2,3,4,5,6,7,8,9,10,11] (by kernel_rfl) rfl (by refine ZIx (i:=11) (nk:=.sl _ _) rfl rfl rfl rfl rfl (fun _ _ hs=>N_bs hs Und.h Tsz.h Zr.h rfl rfl rfl rfl rfl) rfl ?_;refine t_l 10 ?_;refine ZAm (i:=9) rfl rfl rfl rfl rfl (fun _=>A_ix (k:=k) Und.h Tsz.h rfl rfl) rfl ?_;refine t_m 8 ?_;refine t_m 7 ?_;refine t_m 6 ?_;exact ZAB rfl) rfl rfl (dF (dF (dF (dF (dF (dF nF)))))) (ZBl (ZNp (by':=16) (sz:=1) (k:=1) (l:=[str z]) rfl hw hE4' rfl rfl rfl rfl Und.h inferInstance rfl rfl hO4' ((ZAA.lit (h0:=h) (n:=1) (sz:=1) hU4.at' rfl hn3).src (dd:=.slice 9) Und.h (by intro k;simp)) rfl rfl (by decide) (by omega) (by omega) (fun v9' h5 hO5 hE5 hw5=>?_)))
 refine ZAK (h1:=h5) [0,1,2,3,4,5,6,7,8,9,10,11,12] (by kernel_rfl) rfl (ZAB rfl) rfl rfl nF (ZDR rfl rfl (ZA9 rfl) ?_);refine ZAK (h1:=h5) [0,1,2,3,4,5,6,7,8,9,10,11,12,13] (by kernel_rfl) rfl (ZAB rfl) rfl rfl nF (ZDR rfl rfl (ZA9 rfl) ?_);refine ZAU (h1:=h5) (ZAB rfl) rfl ?_;have hO6:Own h h5 (tiX' h v9' v8' v6 v7 (M++[z]) M (c+1)++[slI h (.slice (some ⟨b10,o10,oa10⟩) (nxtW S e).length (nxtW S e).length) 9 1 ((nxtW S e).map str) (nxtW S e).length]):=by
  unfold tiX';rw[List.drop_append_of_le_length hMc,ZBE,List.map_append,List.length_append,List.length_singleton,show M.length+1-(c+1)=M.length-(c+1)+1 by omega];exact hO5
 clear hO5 hO4';have hc5:=ZEK (hO6.at 4 rfl:ZAA h h5 (.slice (some ⟨b10,o10,oa10⟩) _ _) 9 1 _ _) hzi;have hF6:ZAA h h5 v6 9 1 ((nmQ M).map str) (nmQ M).length:=hO6.at 2 rfl;have hF7:ZAA h h5 v7 9 1 ((imQ M).map str) (imQ M).length:=hO6.at 3 rfl;have hl6:=ZPC M;have hl7:=ZQK M;have hzl:0<z.length:=List.length_pos_iff.2 hz0;have hhb:=ZQx hz0;refine zy ?_;refine ZAC rfl rfl rfl rfl (A_ix Und.h Tsz.h rfl rfl) ?_;refine zy ?_;refine ZAC rfl rfl rfl rfl (ZAW (k:=0) Und.h rfl rfl rfl hzl) ?_;refine ZAM rfl rfl rfl rfl (ZAb rfl rfl) (fun c1=>?_) (fun c1=>?_)
 ·have hzh:ZAo z=true:=hhb.2 ⟨hzl,ZH2.1 c1⟩
  refine zy ?_;refine ZAC rfl rfl rfl rfl (A_ix Und.h Tsz.h rfl rfl) ?_;refine zy ?_;refine ZAC rfl rfl rfl rfl (ZD4 (k:=1) Und.h rfl rfl rfl (by omega)) ?_;refine zy ?_;refine ZAI rfl rfl rfl rfl rfl Bod.h rfl rfl (ZCb (y:=z.drop 1) hF7 hE5 (by omega)) ?_;rintro v7' h6 ⟨hF7',hE56,hv7'⟩;have hO7:=(hO6.up4.putS hw5 hE5.2.1 hE56 hF7' hv7').dn4;refine zy ?_;refine⟨(k+1,v9',v8',v6,v7'),(by show (nxtW S e).length-(k+1)<(nxtW S e).length-k;omega),rfl,hE5.trans hE56,hk',?_,rfl,rfl,rfl,rfl,rfl,rfl,rfl,rfl,trivial⟩;simp only;unfold tiX;rw[htk',ZRS hzh,ZQL hzh];exact hO7
 ·have hzh:ZAo z=false:=Bool.eq_false_iff.2 fun q=>c1 (by
   obtain⟨_,q⟩:=hhb.1 q;exact ZH2.2 q)
  refine zy ?_;refine ZAC rfl rfl rfl rfl (A_ix Und.h Tsz.h rfl rfl) ?_;refine zy ?_;refine ZAI rfl rfl rfl rfl rfl Bod.h rfl rfl (ZCb (y:=z) hF6 hE5 (by omega)) ?_;rintro v6' h6 ⟨hF6',hE56,hv6'⟩;have hO7:=(hO6.up3.putS hw5 hE5.2.1 hE56 hF6' hv6').dn3;refine zy ?_;refine⟨(k+1,v9',v8',v6',v7),(by show (nxtW S e).length-(k+1)<(nxtW S e).length-k;omega),rfl,hE5.trans hE56,hk',?_,rfl,rfl,rfl,rfl,rfl,rfl,rfl,rfl,trivial⟩;simp only;unfold tiX;rw[htk',ZRP hzh,ZRO hzh];exact hO7
def ZTv (l:List WkR)(x:WkR):Bool:=decide (∀y∈l,y.key≠x.key)
def stkL (s:List WkR)(t:Int)(p:Str):List Str:=mrgU ltB ((itmW s).filter fun k=>decide (ZRy s t k=p))
def ZTw (l:List WkR)(p:Str)(t:Int):List Str×Int :=
 if (chkS l).2≠0 then ([],(chkS l).2) else if ZAx p=false then ([],6) else if t<0\/80000<t then ([],7) else (stkL (ZAk (mrgU ltW l)) t p,0)
end Go.Dw
