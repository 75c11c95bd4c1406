/- M4: WorksSames. -/
import Derived.Test.YthlmgoefjmlndaaGreatDoorWG2
import Derived.Test.YthlmgoefjmlndaaGreatDoorWG23
import Derived.Test.YthlmgoefjmlndaaGreatDoorWG22
import Derived.Test.YthlmgoefjmlndaaGreatDoorWG17
import Derived.Test.YthlmgoefjmlndaaGreatDoorWG21
set_option linter.unusedVariables false
set_option linter.unusedSimpArgs false
namespace Go.Dw
open Go Go.Dx Go.Proofs
set_option maxRecDepth 100000
def lnkA (x:WkR):Str:=if x.kind=1 then 35::x.a else x.a
def lnkP (x:WkR)(u v:Str):Prop:=(x.kind=1\/x.kind=2)/\((lnkA x=u/\x.b=v)\/(x.b=u/\lnkA x=v))
instance (x:WkR)(u v:Str):Decidable (lnkP x u v):=by unfold lnkP;infer_instance
def prvP (s:List WkR)(p:List Str):Prop:=p≠[]/\p.Nodup/\chnP (nxtW s) p
structure ZS9 (s:List WkR)(p:List Str)(i:Nat):Prop where
 nd:∀j k (hj:j<i) (hk:k<j) (h:j<p.length),p[k]'(Nat.lt_trans hk h)≠p[j]
 ch:∀j (h0:0<j) (hj:j<i) (h:j<p.length),p[j]∈nxtW s (p[j-1]'(by omega))
theorem ZS9.all {s:List WkR}{p:List Str}(h:ZS9 s p p.length)(h0:p≠[]):prvP s p:=by
 refine⟨h0,List.pairwise_iff_getElem.2 fun i j hi hj hij=>h.nd j i hj hij hj,fun i x y hx hy=>?_⟩;obtain⟨h1,rfl⟩:=List.getElem?_eq_some_iff.1 hx;obtain⟨h2,rfl⟩:=List.getElem?_eq_some_iff.1 hy;exact h.ch (i+1) (Nat.succ_pos _) h2 h2
noncomputable instance (s:List WkR)(p:List Str):Decidable (prvP s p):=Classical.propDecidable _
def fndP (s:List WkR)(k n:Nat)(u v:Str):Prop:=k=0\/∃x∈s.take n,lnkP x u v
noncomputable instance (s:List WkR)(k n:Nat)(u v:Str):Decidable (fndP s k n u v):=Classical.propDecidable _
end Go.Dw
namespace Go.Dw
open Go Go.Dx Go.Proofs
set_option maxRecDepth 100000
theorem ZRw {s:List WkR}:(ZAp s).length<=(nodW s).length/\∀w∈ZAp s,w.1.length<=(nodW s).length/\w.2.1.length<=(nodW s).length:=by
 have hs:(ZAN s).length<=(nodW s).length:=ZFN ZAR _;refine⟨?_,fun w hw=>?_⟩
 ·unfold ZAp ZBH ZBJ
  rw[List.length_map];have h1:=ZKd (((ZAN s).filter fun k=>!ZBL k).map (repW s));rw[List.length_map] at h1;have h2:=List.length_filter_le (fun k=>!ZBL k) (ZAN s);omega
 ·obtain⟨q,-,rfl⟩:=List.mem_map.1 (show w∈(ZBJ (repW s) (ZAN s)).map _ from hw)
  unfold ZA0;refine⟨Nat.le_trans (Nat.le_trans (List.length_filter_le _ _) (List.length_filter_le _ _)) hs,?_⟩;simp only[List.length_map];exact Nat.le_trans (Nat.le_trans (List.length_filter_le _ _) (List.length_filter_le _ _)) hs
structure PrOK (W:List WkO)(i k:Nat)(PR:List (Str×Nat)):Prop where
 fst:PR.map Prod.fst=(W.take i).flatMap (fun w=>w.1)++((W[i]?.map fun w=>w.1).getD []).take k
 at_:∀e∈PR,∃w,W[e.2]?=some w/\e.1∈w.1
structure NmOK (S:List WkR)(j:Nat)(N:List Str):Prop where
 nd:N.Nodup
 is:∀k,k∈N ↔ ∃x∈S.take j,x.kind=1/\x.a=k
theorem NmOK.skip {S:List WkR}{j:Nat}{N:List Str}{x:WkR}(h:NmOK S j N)(ht:S.take (j+1)=S.take j++[x])(hx:x.kind≠1):NmOK S (j+1) N:=⟨h.nd,fun k=>by
 rw[h.is,ht]
 constructor
 ·rintro⟨y,hy,q⟩;exact⟨y,List.mem_append_left _ hy,q⟩
 ·rintro⟨y,hy,q1,q2⟩
  rcases List.mem_append.1 hy with hy|hy
  ·exact⟨y,hy,q1,q2⟩
  ·rw[List.mem_singleton.1 hy] at q1;exact absurd q1 hx⟩
theorem NmOK.same {S:List WkR}{j:Nat}{N:List Str}{x:WkR}(h:NmOK S j N)(ht:S.take (j+1)=S.take j++[x])(hx:x.a∈N):NmOK S (j+1) N:=⟨h.nd,fun k=>by
 rw[ht]
 constructor
 ·intro hk
  obtain⟨y,hy,q⟩:=(h.is k).1 hk;exact⟨y,List.mem_append_left _ hy,q⟩
 ·rintro⟨y,hy,q1,q2⟩
  rcases List.mem_append.1 hy with hy|hy
  ·exact (h.is k).2 ⟨y,hy,q1,q2⟩
  ·rw[List.mem_singleton.1 hy] at q2;rw[<-q2];exact hx⟩
theorem NmOK.add {S:List WkR}{j:Nat}{N:List Str}{x:WkR}(h:NmOK S j N)(ht:S.take (j+1)=S.take j++[x])(h1:x.kind=1)(hx:x.a ∉ N):NmOK S (j+1) (N++[x.a]):=⟨by
 rw[List.nodup_append];exact⟨h.nd,by simp,fun a ha b hb e=>hx (by rw[List.mem_singleton] at hb;rw[<-hb,<-e];exact ha)⟩,fun k=>by
 rw[ht,List.mem_append,List.mem_singleton,h.is]
 constructor
 ·rintro (⟨y,hy,q⟩|rfl)
  ·exact⟨y,List.mem_append_left _ hy,q⟩
  ·exact⟨x,by simp,h1,rfl⟩
 ·rintro⟨y,hy,q1,q2⟩
  rcases List.mem_append.1 hy with hy|hy
  ·exact .inl ⟨y,hy,q1,q2⟩
  ·rw[List.mem_singleton.1 hy] at q2;exact .inr q2.symm⟩
end Go.Dw
namespace Go.Dw
open Go Go.Dx Go.Proofs
set_option maxRecDepth 100000
theorem ZKt {ad:Option Addr}{cap:Nat}{l:List WkR}{h:Heap}(hR:SrcK rowW 6 h ad l)(hn:ad=none->l=[]/\cap=0)(hf:∀x∈l,x.Fit)(hlen:Len l)(hL:WkLib h) :
  Sv Tryz.prog 26 [.slice ad l.length cap] h (RetP fun v h'=>(∃a n c,v=.tuple ⟨[.slice a n c,i64 (chkS l).2]⟩/\((chkS l).2=0->n=(ZAp (ZAK (mrgU ltW l))).length/\∀h'':Heap,(∀c o,h.nx<=c->h'.get c=some o->h''.get c=some o)->ZAm 3 ZGs h'' a (ZAp (ZAK (mrgU ltW l)))))/\Ext h h') :=
 (ZJg hR hn hf hlen hL).ret fun v h' hr=>by
  refine⟨?_,hr.2⟩
  rcases hr.1 with ⟨hc,rfl⟩|⟨hc,va,rfl,hW⟩
  ·exact⟨_,_,_,rfl,fun q=>absurd q hc⟩
  ·obtain⟨a,c,e,-⟩:=hW h' fun _ _ _ q=>q
   subst e;refine⟨_,_,_,by rw[hc],fun _=>⟨rfl,fun h'' hk=>?_⟩⟩;obtain⟨a',c',e',hR'⟩:=hW h'' hk
   injection e' with e1
   rw[e1];exact hR'
theorem ZGt {ad:Option Addr}{cap:Nat}{l:List WkR}{h:Heap}(hR:SrcK rowW 6 h ad l)(hn:ad=none->l=[]/\cap=0)(hf:∀x∈l,x.Fit)(hlen:Len l)(hL:WkLib h) :
  Sv Tryz.prog 36 [.slice ad l.length cap] h (RetP fun v h'=>(∃a n c,v=.tuple ⟨[.slice a n c,i64 (chkS l).2]⟩/\((chkS l).2=0->n=(clsL (ZAK (mrgU ltW l)) (ZAK (mrgU ltW l))).length/\ZAm 3 ClsR h' a (clsL (ZAK (mrgU ltW l)) (ZAK (mrgU ltW l)))))/\Ext h h') :=
 (ZN5 hR hn hf hlen hL).ret fun v h' hr=>by
  refine⟨?_,hr.2⟩
  rcases hr.1 with ⟨hc,rfl⟩|⟨hc,a,c,rfl,hW⟩
  ·exact⟨_,_,_,rfl,fun q=>absurd q hc⟩
  ·exact⟨_,_,_,by rw[hc],fun _=>⟨rfl,hW⟩⟩
theorem ZJJ (S:List WkR):∀L:List WkR,(clsL S L).map Prod.fst=(L.filter fun x=>decide (x.kind=3) && decide (ZA3 (nxtW S) x.a x.b (nodW S).length≠[])).map WkR.key
 | []=>rfl
 | x::L=>by
  have ih:=ZJJ S L;unfold clsL at ih ⊢;rw[List.flatMap_cons,List.map_append,ih,List.filter_cons];unfold clF
  by_cases h3:x.kind=3
  ·by_cases hp:ZA3 (nxtW S) x.a x.b (nodW S).length=[]
   ·simp[h3,hp]
   ·simp[h3,hp]
  ·simp[h3]
theorem ZKl {s:List WkR}{x:WkR}(hx:x∈s)(h3:x.kind=3):x.a∈nodW s:=by
 unfold nodW;exact List.mem_append_left _ (List.mem_append_right _ (ZCG.2 ⟨_,List.mem_map.2 ⟨x,ZBb.2 ⟨hx,by simp[h3]⟩,rfl⟩,.inl rfl⟩))
theorem ZR9 {s s':List WkR}(hne:∀k∈nodW s,k≠[])(hne':∀k∈nodW s',k≠[])(hsub:s.Sublist s'):((clsL s s).map Prod.fst).Sublist ((clsL s' s').map Prod.fst):=by
 have hm:∀y∈s,y∈s':=fun y hy=>hsub.subset hy;rw[ZJJ,ZJJ];refine List.Sublist.map _ (List.Sublist.trans ?_ (hsub.filter _));have e:s.filter (fun x=>decide (x.kind=3) && decide (ZA3 (nxtW s) x.a x.b (nodW s).length≠[]))=(s.filter fun x=>decide (x.kind=3) && decide (ZA3 (nxtW s') x.a x.b (nodW s').length≠[])).filter fun x=>decide (x.kind=3) && decide (ZA3 (nxtW s) x.a x.b (nodW s).length≠[]):=by
  rw[List.filter_filter];refine List.filter_congr fun x hx=>?_
  by_cases h3:x.kind=3
  ·by_cases hp:ZA3 (nxtW s) x.a x.b (nodW s).length≠[]
   ·have hq:ZA3 (nxtW s') x.a x.b (nodW s').length≠[]:=(ZJ6 hne' (ZKl (hm x hx) h3)).2 (ZM7 hm ((ZJ6 hne (ZKl hx h3)).1 hp))
    simp[h3,hp,hq]
   ·simp[h3,hp]
  ·simp[h3]
 rw[e];exact List.filter_sublist
theorem ZTQ {a b:Key}{l m:List Key}(h:(a::l).Sublist (b::m))(hn:¬b=a):(a::l).Sublist m:=by
 cases h with
 | cons _ h=>exact h
 | cons_cons _ h=>exact absurd rfl hn
theorem ZKY {x y:WkR}(h2:x.kind=2)(h3:y.kind=3)(ha:y.archive=x.archive)(hn:y.number=x.number)(hd:y.day=x.day)(h4:y.a=x.a)(h5:y.b=x.b):ZAw y=ZAw x:=by
 unfold ZAw ZFz;rw[ha,hn,hd,h4,h5,h2,h3];simp
theorem ZIP:∀(l:List WkR)(i:Nat),(∀x∈l,ZAw x=0)->ZE1 i l=(0,0)
 | [],_,_=>rfl
 | x::l,i,h=>by
  rw[ZE1,if_neg (fun q=>q (h x List.mem_cons_self))];exact ZIP l _ fun y hy=>h y (List.mem_cons_of_mem _ hy)
theorem ZSf {l:List WkR}(h1:l.length<=200)(h2:∀x∈l,ZAw x=0):chkS l=(0,0):=by
 unfold chkS;rw[if_neg (by omega)];exact ZIP l 0 h2
set_option maxHeartbeats 16000000 in
theorem ZKj {a:Option Addr}{cap:Nat}{l:List WkR}{x0:WkR}{h:Heap}(hR:SrcK rowW 6 h a l)(hn:a=none->l=[]/\cap=0)(hf:∀x∈l,x.Fit)(hb:l.length*72<=140737488351232)(hx0:x0.Fit)(hL:WkLib h) :
  Sv Tryz.prog 11 [.slice a l.length cap,.agg ⟨rowW x0⟩] h (RetP fun v h'=>v=.bool true/\Ext h h'):=by
 refine ZC6 fun hw=>?_;have hlen:Len l:=by show l.length<_;omega
 obtain⟨x,ex⟩:∃x:WkR,x=⟨x0.archive,x0.number,x0.day,2,x0.a,x0.b⟩:=⟨_,rfl⟩;have hxF:x.Fit:=by rw[ex];exact⟨hx0.1,hx0.2,hx0.3⟩
 have hx2:x.kind=2:=by rw[ex]
 have hrow:[str x0.archive,i64 x0.number,i64 x0.day,i64 2,str x0.a,str x0.b]=rowW x:=by rw[ex]
 have hlen1:(l++[x]).length=l.length+1:=by rw[List.length_append];rfl
 have hfx:∀y∈l++[x],y.Fit:=fun y hy=>by
  rcases List.mem_append.1 hy with hy|hy
  ·exact hf y hy
  ·rw[List.mem_singleton.1 hy];exact hxF
 refine ZAF Tryz.func11 rfl (by rw[Tryz.ntmps11];rfl) ?_;show Wc Tryz.prog ⟨11,243,none⟩ _ _ _ _ _;refine zy ?_;refine ZBf rfl rfl rfl fun h1 hE1 hW1 hg1 hn1=>?_;have hO1:=(Own.nil h h).newCe hw (Nat.le_refl _) hE1 hg1 (Nat.le_refl _);generalize h.nx=b3 at hO1 hg1 ⊢;refine zy ?_;refine ZDn (r:=[str x0.archive,i64 x0.number,i64 x0.day,i64 2,str x0.a,str x0.b]) hw hE1 rfl Tsz.h rfl rfl hO1 rfl rfl rfl fun h2 hW2 hO2 hE2=>?_;have hg2:h2.get b3=some (.cells (rowW x) 44 false):=by rw[<-hrow];exact hO2.p1
 have hb0:h.nx<=b3:=hO2.lo _ List.mem_cons_self b3 rfl;have hb3:b3<h2.nx:=hW2 _ _ hg2;clear hO1 hO2 hg1 hrow hn1;refine zy ?_;refine ZAI rfl rfl rfl rfl rfl Bod.h rfl rfl (ZKt (hR.ext hE2) hn hf hlen (hL.ext hE2)) ?_;rintro _ h3 ⟨⟨aW,nW,cW,rfl,hcW⟩,hE23⟩;have hE3:=hE2.trans hE23;have hg3:=hE23.get hg2;refine zy ?_;refine ZAI rfl rfl rfl rfl rfl Bod.h rfl rfl (ZMI (x:=x) (hR.ext hE3) hb) ?_;rintro v4 h4 ⟨hF4,hE34⟩;have hE4:=hE3.trans hE34;have hg4:=hE34.get hg3;obtain⟨a4,rfl,hS4,hn4⟩:=ZAB.rowsAt (enc:=rowW) (k:=6) (fun _=>rfl) hF4 rfl;refine zy ?_;refine ZAI rfl rfl rfl rfl rfl Bod.h rfl rfl (ZKt hS4 (fun e=>absurd (hn4 e) (by simp)) hfx (show _<_ by rw[hlen1];omega) (hL.ext hE4)) ?_
 rintro _ h5 ⟨⟨aB,nB,cB,rfl,hcB⟩,hE45⟩;have hE5:=hE4.trans hE45;have hg5:=hE45.get hg4;clear hF4 hS4 hn4;refine zy ?_;refine ZAI rfl rfl rfl rfl rfl Bod.h rfl rfl (ZGt (hR.ext hE5) hn hf hlen (hL.ext hE5)) ?_;rintro _ h6 ⟨⟨aC,nC,cC,rfl,hcC⟩,hE56⟩;have hE6:=hE5.trans hE56;have hg6:=hE56.get hg5;refine zy ?_;refine ZAI rfl rfl rfl rfl rfl Bod.h rfl rfl (ZMI (x:=x) (hR.ext hE6) hb) ?_;rintro v7 h7 ⟨hF7,hE67⟩;have hE7:=hE6.trans hE67;have hg7:=hE67.get hg6;obtain⟨a7,rfl,hS7,hn7⟩:=ZAB.rowsAt (enc:=rowW) (k:=6) (fun _=>rfl) hF7 rfl;refine zy ?_;refine ZAI rfl rfl rfl rfl rfl Bod.h rfl rfl (ZGt hS7 (fun e=>absurd (hn7 e) (by simp)) hfx (show _<_ by rw[hlen1];omega) (hL.ext hE7)) ?_
 rintro _ h8 ⟨⟨aD,nD,cD,rfl,hcD⟩,hE78⟩;have hE8:=hE7.trans hE78;have hg8:=hE78.get hg7;clear hF7 hS7 hn7;have hA:=ZDF (l:=l);have hA2:=ZDF (l:=l++[x]);have hG:=ZD5 (l:=l);have hG2:=ZD5 (l:=l++[x]);generalize (chkS l).2=ec at *;generalize (chkS (l++[x])).2=ed at *;refine zy ?_
 by_cases hc0:ec=0
 rotate_left
 ·refine ZAD rfl rfl rfl rfl (A_tt hc0 (ZBm rfl rfl)) ?_
  refine zy ?_;refine ZAU rfl rfl rfl rfl rfl Bod.h rfl rfl (ZD7 (hL.ext hE8)) fun h9 hE9=>?_;refine zy ?_;exact ZAG (ZAH rfl ⟨rfl,hE8.trans hE9⟩)
 refine ZAD rfl rfl rfl rfl (A_ff (fun q=>q hc0) (ZBm rfl rfl)) ?_;refine zy ?_
 by_cases hd0:ed=0
 rotate_left
 ·refine ZAD rfl rfl rfl rfl (A_tt hd0 (ZBm rfl rfl)) ?_
  refine zy ?_;refine ZAU rfl rfl rfl rfl rfl Bod.h rfl rfl (ZD7 (hL.ext hE8)) fun h9 hE9=>?_;refine zy ?_;exact ZAG (ZAH rfl ⟨rfl,hE8.trans hE9⟩)
 refine ZAD rfl rfl rfl rfl (A_ff (fun q=>q hd0) (ZBm rfl rfl)) ?_;refine zy ?_;refine ZAD rfl rfl rfl rfl (A_ff (fun q=>q hc0) (ZBm rfl rfl)) ?_;refine zy ?_;refine ZAD rfl rfl rfl rfl (A_ff (fun q=>q hd0) (ZBm rfl rfl)) ?_;refine zy ?_;refine ZAU rfl rfl rfl rfl rfl Bod.h rfl rfl (ZRe (k:=x) ((hR.ext hE8).1) hlen) fun h9 hE89=>?_;have hE9:=hE8.trans hE89;have hg9:=hE89.get hg8
 cases hfr:ZMd l x with
 | false =>
  refine zy ?_;refine ZAU rfl rfl rfl rfl rfl Bod.h rfl rfl (ZD7 (hL.ext hE9)) fun h10 hE10=>?_;refine zy ?_;exact ZAG (ZAH rfl ⟨rfl,hE9.trans hE10⟩)
 | true =>
 have hfresh:∀y∈l,y.key≠x.key:=of_decide_eq_true hfr;obtain⟨rfl,hW⟩:=hcW hc0;obtain⟨rfl,hB⟩:=hcB hd0;obtain⟨rfl,hC⟩:=hcC hc0;obtain⟨rfl,hD⟩:=hcD hd0;replace hA:=hA hc0;replace hA2:=hA2 hd0;replace hG:=hG hc0;replace hG2:=hG2 hd0;have hE39:=((((hE34.trans hE45).trans hE56).trans hE67).trans hE78).trans hE89;have hWF:∀h'':Heap,(∀c,b3≠c->h''.get c=h9.get c)->ZAm 3 ZGs h'' aW _:=fun h'' hk=>hW h'' fun c o hc hg=>(hk c fun e=>by omega).trans (hE39.get hg);replace hW:=hWF h9 fun _ _=>rfl;replace hB:ZAm 3 ZGs h9 aB _:=ZAm.ext (fun hr hE=>hr.ext hE) (hB h5 fun _ _ _ q=>q) (((hE56.trans hE67).trans hE78).trans hE89)
 replace hC:=ZAm.ext (R:=ClsR) (fun hr hE=>ClsR.ext hr hE) hC ((hE67.trans hE78).trans hE89);replace hD:=ZAm.ext (R:=ClsR) (fun hr hE=>ClsR.ext hr hE) hD hE89;clear hcW hcB hcC hcD hg2 hg3 hg4 hg5 hg6 hg7 hg8 hE23 hE34 hE45 hE56 hE67 hE78 hE89 hE39 hE3 hE4 hE5 hE6 hE7 hE8;have h26:x.kind≠6:=by rw[hx2];decide
 have hsubl:=ZJI hfresh h26;have hsub:∀y∈ZAK (mrgU ltW l),y∈ZAK (mrgU ltW (l++[x])):=fun y hy=>hsubl.subset hy;have hsg:∀y∈ZAK (mrgU ltW l),ZAw y=0:=fun y hy=>hG y (ZDP hy);have hsg':∀y∈ZAK (mrgU ltW (l++[x])),ZAw y=0:=fun y hy=>hG2 y (ZDP hy);have hSl:(ZAK (mrgU ltW l)).length<=200:=Nat.le_trans (ZFZ l) hA;have hTl:(ZAK (mrgU ltW (l++[x]))).length<=200:=Nat.le_trans (ZFZ _) hA2;have hcs:=ZR9 (ZKG hsg) (ZKG hsg') hsubl
 have hlast:∀(y:WkR),y=⟨x0.archive,x0.number,x0.day,3,x0.a,x0.b⟩->x0.a∈nodW (ZAK (mrgU ltW l))->x0.b∈nodW (ZAK (mrgU ltW l))->(chkS (l++[y])).2=0/\ZAp (ZAK (mrgU ltW (l++[y])))=ZAp (ZAK (mrgU ltW l)):=fun y hy h1 h2=>by
  have hk:y.key=x.key:=by rw[hy,ex];rfl
  have h3:y.kind=3:=by rw[hy]
  have hya:y.a=x0.a:=by rw[hy]
  have hyb:y.b=x0.b:=by rw[hy]
  refine⟨?_,ZL0 (fun z hz=>by rw[hk];exact hfresh z hz) h3 (by rw[hya];exact h1) (by rw[hyb];exact h2)⟩;rw[ZSf (by rw[List.length_append];rw[hlen1] at hA2;exact hA2) fun z hz=>?_]
  rcases List.mem_append.1 hz with hz|hz
  ·exact hG z hz
  ·rw[List.mem_singleton.1 hz,ZKY hx2 h3 (by rw[hy,ex]) (by rw[hy,ex]) (by rw[hy,ex]) (by rw[hy,ex]) (by rw[hy,ex])]
   exact hG2 x (by simp)
 have hmet:=fun (i:Nat) (w:WkO) (hi:(ZAp (ZAK (mrgU ltW l)))[i]?=some w) (z:Str) (hz:z∈w.1)=>ZN9 hsub hi hz;have hmor:=fun (i k:Nat) (w u:WkO) (hi:(ZAp (ZAK (mrgU ltW l)))[i]?=some w) (hk:(ZAp (ZAK (mrgU ltW (l++[x]))))[k]?=some u) (z:Str) (hz:z∈w.1) (hu:z∈u.1)=>ZNf hsub hi hk hz hu;have hnms:=fun (i:Nat) (w:WkO) (hi:(ZAp (ZAK (mrgU ltW l)))[i]?=some w)=>ZL3 hi
 have hin:∀w∈ZAp (ZAK (mrgU ltW l)),∀z∈w.1,z∈nodW (ZAK (mrgU ltW l)):=fun w hw z hz=>by
  obtain⟨i,hi⟩:=List.getElem?_of_mem hw;obtain⟨q,-,rfl⟩:=ZEw hi;exact (ZDf.1 hz).1
 obtain⟨hWl,hWn⟩:=ZRw (s:=ZAK (mrgU ltW l));obtain⟨hBl,hBn⟩:=ZRw (s:=ZAK (mrgU ltW (l++[x])));have hnd:=ZHD (ZAK (mrgU ltW l));have hnd':=ZHD (ZAK (mrgU ltW (l++[x])));have hCl:=ZM9 (ZAK (mrgU ltW l)) (ZAK (mrgU ltW l));have hDl:=ZM9 (ZAK (mrgU ltW (l++[x]))) (ZAK (mrgU ltW (l++[x])));replace hWn:∀w∈ZAp (ZAK (mrgU ltW l)),w.1.length<=1400/\w.2.1.length<=1400:=fun w hw=>⟨Nat.le_trans (hWn w hw).1 (by omega),Nat.le_trans (hWn w hw).2 (by omega)⟩;replace hBn:∀w∈ZAp (ZAK (mrgU ltW (l++[x]))),w.1.length<=1400/\w.2.1.length<=1400:=fun w hw=>⟨Nat.le_trans (hBn w hw).1 (by omega),Nat.le_trans (hBn w hw).2 (by omega)⟩
 replace hWl:(ZAp (ZAK (mrgU ltW l))).length<=1400:=by omega
 replace hBl:(ZAp (ZAK (mrgU ltW (l++[x])))).length<=1400:=by omega
 replace hCl:(clsL (ZAK (mrgU ltW l)) (ZAK (mrgU ltW l))).length<=200:=by omega
 replace hDl:(clsL (ZAK (mrgU ltW (l++[x]))) (ZAK (mrgU ltW (l++[x])))).length<=200:=by omega
 clear hnd hnd' hsubl hsub hsg hsg' hSl hTl hA hA2 hG hG2 h26 hfr;generalize clsL (ZAK (mrgU ltW l)) (ZAK (mrgU ltW l))=C at *;generalize clsL (ZAK (mrgU ltW (l++[x]))) (ZAK (mrgU ltW (l++[x])))=D at *;generalize ZAp (ZAK (mrgU ltW (l++[x])))=B at *;generalize ZAp (ZAK (mrgU ltW l))=W at *;generalize nodW (ZAK (mrgU ltW l))=N at *;refine zy ?_;refine ZAP (fun (i:Nat) m ds h'=>ds=[]/\h9=h'/\i<=W.length/\AllK m [(0,.slice a l.length cap),(3,.pointer (some ⟨b3,0,none⟩)),(5,.slice aW W.length cW),(7,.slice aB B.length cB),(9,.slice aC C.length cC),(11,.slice aD D.length cD),(13,i64 (i:Nat))]) (fun i=>W.length-i) 0 ?_ ?_
 ·exact⟨rfl,rfl,Nat.zero_le _,rfl,rfl,rfl,rfl,rfl,rfl,rfl,trivial⟩
 rintro i m ds h10 ⟨rfl,rfl,hi,hall⟩;refine Wc.le ?_ (Le.kn hall);clear hall;refine zy ?_;refine ZAS rfl rfl rfl rfl (ZAd rfl rfl) (fun hil=>?_) (fun hil=>?_);rotate_left
 ·clear hmet hmor hnms hB hBl hBn hil hi hW
  refine zy ?_;refine ZAP (fun (st:Nat×Nat) m ds h'=>ds=[]/\h9=h'/\st.1<=D.length/\st.2<=C.length/\((C.drop st.2).map Prod.fst).Sublist ((D.drop st.1).map Prod.fst)/\AllK m [(0,.slice a l.length cap),(3,.pointer (some ⟨b3,0,none⟩)),(5,.slice aW W.length cW),(9,.slice aC C.length cC),(11,.slice aD D.length cD),(18,i64 (st.2:Nat)),(19,i64 (st.1:Nat))]) (fun st=>D.length-st.1) (0,0) ?_ ?_
  ·exact⟨rfl,rfl,Nat.zero_le _,Nat.zero_le _,hcs,rfl,rfl,rfl,rfl,rfl,rfl,rfl,trivial⟩
  clear hcs;rintro⟨i,k⟩ m ds h10 ⟨rfl,rfl,hi,hk,hsb,hall⟩;refine Wc.le ?_ (Le.kn hall);clear hall;simp only at hi hk hsb ⊢;refine ZG7 (Wc.mono (Q:=fun z m' ds' h'=>ds'=[]/\h9=h'/\AllK m' [(0,.slice a l.length cap),(3,.pointer (some ⟨b3,0,none⟩)),(5,.slice aW W.length cW),(9,.slice aC C.length cC),(11,.slice aD D.length cD),(18,i64 (k:Nat)),(19,i64 (i:Nat))]/\((z=.normal/\i<D.length/\k<C.length)\/(z=.exit 8/\k=C.length))) ?_ ?_)
  ·by_cases q1:i<D.length
   ·refine zy ?_
    refine ZAD rfl rfl rfl rfl (A_tt (by omega) (ZAd rfl rfl)) ?_
    by_cases q2:k<C.length
    ·refine zy ?_
     refine ZAD rfl rfl rfl rfl (A_tt (by omega) (ZAd rfl rfl)) ?_;refine zy ?_;exact⟨rfl,rfl,⟨rfl,rfl,rfl,rfl,rfl,rfl,rfl,trivial⟩,.inl ⟨rfl,q1,q2⟩⟩
    ·refine zy ?_
     refine ZAD rfl rfl rfl rfl (A_ff (by omega) (ZAd rfl rfl)) ?_;refine zy ?_;exact⟨rfl,rfl,⟨rfl,rfl,rfl,rfl,rfl,rfl,rfl,trivial⟩,.inr ⟨rfl,by omega⟩⟩
   ·have hkc:k=C.length:=by
     have e:D.drop i=[]:=List.drop_eq_nil_of_le (by omega);rw[e,List.map_nil,List.sublist_nil,List.map_eq_nil_iff,List.drop_eq_nil_iff] at hsb;omega
    refine zy ?_;refine ZAD rfl rfl rfl rfl (A_ff (by omega) (ZAd rfl rfl)) ?_;refine zy ?_;exact⟨rfl,rfl,⟨rfl,rfl,rfl,rfl,rfl,rfl,rfl,trivial⟩,.inr ⟨rfl,hkc⟩⟩
  rintro z m _ _ ⟨rfl,rfl,hall,(⟨rfl,hi',hk'⟩|⟨rfl,hkc⟩)⟩
  ·show Wc _ _ _ _ _ _ _
   refine Wc.le ?_ (Le.kn hall);clear hall hlast hin hWF hWn hWl;have hdk:(C.drop k).map Prod.fst=C[k].1::(C.drop (k+1)).map Prod.fst:=by rw[List.drop_eq_getElem_cons hk',List.map_cons]
   rw[List.drop_eq_getElem_cons hi',List.map_cons,hdk] at hsb;obtain⟨bC,oC,oaC,rfl,row,hrow,ac,kc,er,-⟩:=hC k hk';obtain⟨bD,oD,oaD,rfl,row',hrow',ad',kd,er',-⟩:=hD i hi';generalize C[k]=c at *;generalize D[i]=d at *;subst er;subst er';have hk1:ZAl h9 bC (oC+k*3+0) 2=some (rowK c.1):=ZNJ hrow;have hk2:ZAl h9 bD (oD+i*3+0) 2=some (rowK d.1):=ZNJ hrow'
   by_cases he:d.1=c.1
   ·rw[he,List.cons_sublist_cons] at hsb
    refine zy ?_;refine ZAQ hmix [0,0,3,7,15,0,0,96,224,480,1023] [0,1,2,3,4,5,6,7,8,9,10] none [] (by kernel_rfl) (by kernel_rfl) ?_;refine z_m ?_;refine z_m ?_;refine ZAC rfl rfl rfl rfl rfl (fun _=>A_ix (k:=i) Und.h Tsz.h rfl rfl hi') ?_;refine z_f ?_;refine z_r ?_;refine z_m ?_;refine z_m ?_;refine ZAC rfl rfl rfl rfl rfl (fun _=>A_ix (k:=k) Und.h Tsz.h rfl rfl hk') ?_;refine z_f ?_;refine z_r ?_;refine ZAC rfl rfl rfl rfl rfl (fun _=>A_tt he (ZHu keyK rfl rfl keyG rfl rfl)) ?_;refine ZAW (ZAA rfl) nb' ?_;refine zy ?_;exact⟨(i+1,k+1),(by show D.length-(i+1)<D.length-i;omega),rfl,rfl,hi',hk',hsb,rfl,rfl,rfl,rfl,rfl,rfl,rfl,trivial⟩
   ·have hsb2:((C.drop k).map Prod.fst).Sublist ((D.drop (i+1)).map Prod.fst):=by
     rw[hdk];exact ZTQ hsb he
    refine zy ?_;refine ZAQ hmix [0,0,3,7,15,0,0,96,224,480,1023] [0,1,2,3,4,5,6,7,8,9,10] none [] (by kernel_rfl) (by kernel_rfl) ?_;refine z_m ?_;refine z_m ?_;refine ZAC rfl rfl rfl rfl rfl (fun _=>A_ix (k:=i) Und.h Tsz.h rfl rfl hi') ?_;refine z_f ?_;refine z_r ?_;refine z_m ?_;refine z_m ?_;refine ZAC rfl rfl rfl rfl rfl (fun _=>A_ix (k:=k) Und.h Tsz.h rfl rfl hk') ?_;refine z_f ?_;refine z_r ?_;refine ZAC rfl rfl rfl rfl rfl (fun _=>A_ff he (ZHu keyK rfl rfl keyG rfl rfl)) ?_;refine ZAW (ZAA rfl) nb' ?_;refine zy ?_;exact⟨(i+1,k),(by show D.length-(i+1)<D.length-i;omega),rfl,rfl,hi',hk,hsb2,rfl,rfl,rfl,rfl,rfl,rfl,rfl,trivial⟩
  show Wc _ _ _ _ _ _ _
  refine Wc.le ?_ (Le.kn hall);clear hall hC hD hsb hk hi hDl;subst hkc;refine zy ?_;refine ZAD rfl rfl rfl rfl (A_ff (fun q=>q rfl) (ZBm rfl rfl)) ?_;refine zy ?_;obtain⟨y,ey⟩:∃y:WkR,y=⟨x.archive,x.number,x.day,3,x.a,x.b⟩:=⟨_,rfl⟩;have hyF:y.Fit:=by rw[ey];exact⟨hxF.1,hxF.2,hxF.3⟩
  have hlenY:(l++[y]).length=l.length+1:=by rw[List.length_append];rfl
  have hfy:∀z∈l++[y],z.Fit:=fun z hz=>by
   rcases List.mem_append.1 hz with hz|hz
   ·exact hf z hz
   ·rw[List.mem_singleton.1 hz];exact hyF
  have hl2:x.a∈N->x.b∈N->(chkS (l++[y])).2=0/\ZAp (ZAK (mrgU ltW (l++[y])))=W:=fun h1 h2=>hlast y (by rw[ey,ex]) (by rw[ex] at h1;exact h1) (by rw[ex] at h2;exact h2);refine ZA9 rfl Tsz.h rfl rfl hg9 rfl rfl rfl fun h10 hU=>?_;have hE10:=hU.ext hE9 hw hb0;have hg10:h10.get b3=some (.cells (rowW y) 44 false):=by rw[ey];exact hU.at'
  have hW10:=hWF h10 fun c hc=>hU.other c fun e=>hc e.symm;have hL10:=hL.ext hE10;have hR10:=hR.ext hE10;have hya:y.a=x.a:=by rw[ey]
  have hyb:y.b=x.b:=by rw[ey]
  rw[<-hya,<-hyb] at hl2;clear hlast hU hWF hg9 hya hyb;refine zy ?_;refine ZAP (fun (st:Nat×Bool×Bool) m ds h'=>ds=[]/\h10=h'/\st.1<=W.length/\(st.2.1=true->y.a∈N)/\(st.2.2=true->y.b∈N)/\AllK m [(0,.slice a l.length cap),(3,.pointer (some ⟨b3,0,none⟩)),(5,.slice aW W.length cW),(20,.bool st.2.1),(21,.bool st.2.2),(22,i64 (st.1:Nat))]) (fun st=>W.length-st.1) (0,false,false) ?_ ?_
  ·exact⟨rfl,rfl,Nat.zero_le _,(fun q=>absurd q Bool.false_ne_true),(fun q=>absurd q Bool.false_ne_true),rfl,rfl,rfl,rfl,rfl,rfl,trivial⟩
  rintro⟨j,o1,o2⟩ m ds h11 ⟨rfl,rfl,hj,ho1,ho2,hall⟩;refine Wc.le ?_ (Le.kn hall);clear hall;simp only at hj ho1 ho2 ⊢;refine zy ?_;refine ZAS rfl rfl rfl rfl (ZAd rfl rfl) (fun hjl=>?_) (fun hjl=>?_);rotate_left
  ·have aw:∀h':Heap,Ext h h'->Sv Tryz.prog 21 [] h' (RetP fun v h''=>v=.bool true/\Ext h' h''):=fun h' e=>ZD7 (hL.ext e)
   cases o1 with
   | false =>
    refine zy ?_;refine ZAU rfl rfl rfl rfl rfl Bod.h rfl rfl (aw h10 hE10) fun h11 hE11=>?_;refine zy ?_;exact ZAG (ZAH rfl ⟨rfl,hE10.trans hE11⟩)
   | true =>
   cases o2 with
   | false =>
    refine zy ?_;refine ZAU rfl rfl rfl rfl rfl Bod.h rfl rfl (aw h10 hE10) fun h11 hE11=>?_;refine zy ?_;exact ZAG (ZAH rfl ⟨rfl,hE10.trans hE11⟩)
   | true =>
   obtain⟨hck,hWW⟩:=hl2 (ho1 rfl) (ho2 rfl);refine zy ?_;refine ZAI rfl rfl rfl rfl rfl Bod.h rfl rfl (ZMI (x:=y) hR10 hb) ?_;rintro v11 h11 ⟨hF11,hE11⟩;obtain⟨a11,rfl,hS11,hn11⟩:=ZAB.rowsAt (enc:=rowW) (k:=6) (fun _=>rfl) hF11 rfl;refine zy ?_;refine ZAI rfl rfl rfl rfl rfl Bod.h rfl rfl (ZMk hS11 (fun e=>absurd (hn11 e) (by simp)) hfy (show _<_ by rw[hlenY];omega) (hL10.ext hE11)) ?_;rintro _ h12 ⟨⟨hc,-⟩|⟨-,va,rfl,hWa⟩,hE12⟩
   ·exact absurd hck hc
   rw[hWW] at hWa;have hE1:=hE11.trans hE12;have hWb:ZCT h12 (.slice aW W.length cW) W:=⟨aW,cW,rfl,ZAm.ext (R:=ZGs) (fun hr he=>ZGs.ext he hr) hW10 hE1⟩;refine zy ?_;refine ZAD rfl rfl rfl rfl (A_tt rfl (ZBV rfl rfl)) ?_;refine zy ?_;refine ZAT rfl rfl rfl rfl rfl Bod.h rfl rfl (ZIH hWa hWb (show _<_ by omega) fun w hw=>⟨Nat.lt_of_le_of_lt (hWn w hw).1 (by decide),Nat.lt_of_le_of_lt (hWn w hw).2 (by decide)⟩) ?_;refine zy ?_;refine ZAU rfl rfl rfl rfl rfl Bod.h rfl rfl (aw h12 (hE10.trans hE1)) fun h13 hE13=>?_;refine zy ?_;exact ZAG (ZAH rfl ⟨rfl,(hE10.trans hE1).trans hE13⟩)
  have hj':j<W.length:=by omega
  obtain⟨bW,oW,oaW,rfl,row,hrow,an,cn,ai,ci,er,hnm,-⟩:=hW10 j hj';have hm:=List.getElem_mem hj';obtain⟨hw1,-⟩:=hWn _ hm;have hin':=hin _ hm;subst er;clear hm;generalize W[j]=w at *;have hc0:ZAe h10 bW (oW+j*3+0)=some (.slice an w.1.length cn):=ZAV (k:=0) hrow rfl;have hh1:=ZDq (cap:=cn) (k:=y.a) hnm (show _<_ by omega);have hh2:=ZDq (cap:=cn) (k:=y.b) hnm (show _<_ by omega);have hf1:decide (y.a∈w.1)=true->y.a∈N:=fun q=>hin' _ (of_decide_eq_true q);have hf2:decide (y.b∈w.1)=true->y.b∈N:=fun q=>hin' _ (of_decide_eq_true q);generalize decide (y.a∈w.1)=d1 at hh1 hf1;generalize decide (y.b∈w.1)=d2 at hh2 hf2
  clear hl2 hin hin';cases o1
  ·cases o2
   ·skip
    refine zy ?_;refine ZAQ hmix [0,1,3,3,15,31,63,3,131,511,1023,0,3071,7167,7167,31743,64511,130047,7167,269311,1047551,2096127,2097151,8388607] [0,1,2,3,4,5,6,7,8,11] (some 9) [([10,12,13,14,15,16,17,18,19],(some 20)),([21],(some 22)),([],(some 23)),([],none)] (by kernel_rfl) (by kernel_rfl) ?_;refine z_m ?_;refine z_m ?_;refine g_m ?_;refine g_m ?_
    first|refine ZAg rfl rfl rfl rfl ?_|refine ZAC rfl rfl rfl rfl rfl (fun _=>A_ix (k:=j) Und.h Tsz.h rfl rfl hj') ?_
    refine g_f ?_;refine g_l ?_;refine g_f ?_;refine g_l ?_;refine z_m ?_;refine ZAL [0,1,2,3,4,5,6,7,8] (by kernel_rfl) rfl (ZAA rfl) rfl nb (kF (dF (dF (dF (dF (dF (dF (dF (dF (dF nF)))))))))) (ZAa rfl rfl rfl rfl rfl Bod.h hh1 ?_);refine z_p ?_;refine z_m ?_;refine g_m ?_;refine g_m ?_
    first|refine ZAg rfl rfl rfl rfl ?_|refine ZAC rfl rfl rfl rfl rfl (fun _=>A_ix (k:=j) Und.h Tsz.h rfl rfl hj') ?_
    refine g_f ?_;refine g_l ?_;refine g_f ?_;refine g_l ?_;refine ZAL [0,1,2,3,4,5,6,7,8,9,11,12,13,14,15,16,17,18,19] (by kernel_rfl) rfl (by refine t_m 11 ?_;exact ZAA rfl) rfl nb (dF (dF (dF (dF (dF (dF (dF (dF (kF (dF nF)))))))))) (ZAa rfl rfl rfl rfl rfl Bod.h hh2 ?_);refine z_p ?_;refine ZAL [0,1,2,3,4,5,6,7,8,9,10,11,12,13,14,15,16,17,18,19,20] (by kernel_rfl) rfl (by refine t_p 10 ?_;exact ZAA rfl) rfl nb (kF (dF nF)) (ZCa rfl rfl (ZAr rfl) ?_);refine ZAL [0,1,2,3,4,5,6,7,8,9,10,11,12,13,14,15,16,17,18,19,20,21,22] (by kernel_rfl) rfl (by refine t_p 21 ?_;exact ZAA rfl) rfl nb (dF nF) (ZCa rfl rfl (ZAr rfl) ?_)
    refine ZAW (ZAA rfl) nb' ?_;refine zy ?_;exact⟨(j+1,d1,d2),(by show W.length-(j+1)<W.length-j;omega),rfl,rfl,hj',hf1,hf2,rfl,rfl,rfl,rfl,rfl,rfl,trivial⟩
   ·skip
    refine zy ?_;refine ZAQ hmix [0,1,3,3,15,31,63,3,131,511,1023,0,3071,7167,7167,31743,64511,130047,7167,269311,1047551,2096127,2097151,8388607] [0,1,2,3,4,5,6,7,8,11] (some 9) [([10,12,13,14,15,16,17,18,19],(some 20)),([21],(some 22)),([],(some 23)),([],none)] (by kernel_rfl) (by kernel_rfl) ?_;refine z_m ?_;refine z_m ?_;refine g_m ?_;refine g_m ?_
    first|refine ZAg rfl rfl rfl rfl ?_|refine ZAC rfl rfl rfl rfl rfl (fun _=>A_ix (k:=j) Und.h Tsz.h rfl rfl hj') ?_
    refine g_f ?_;refine g_l ?_;refine g_f ?_;refine g_l ?_;refine z_m ?_;refine ZAL [0,1,2,3,4,5,6,7,8] (by kernel_rfl) rfl (ZAA rfl) rfl nb (kF (dF (dF (dF (dF (dF (dF (dF (dF (dF nF)))))))))) (ZAa rfl rfl rfl rfl rfl Bod.h hh1 ?_);refine z_p ?_;refine z_m ?_;refine g_m ?_;refine g_m ?_;refine z_o ?_;refine g_f ?_;refine g_l ?_;refine g_f ?_;refine g_l ?_;refine ZAL [0,1,2,3,4,5,6,7,8,9,11,12,13,14,15,16,17,18,19] (by kernel_rfl) rfl (by refine t_m 11 ?_;exact ZAA rfl) rfl nb (dF (dF (dF (dF (dF (dF (dF (dF (kF (dF nF)))))))))) (ZB7 rfl ?_);refine z_p ?_;refine ZAL [0,1,2,3,4,5,6,7,8,9,10,11,12,13,14,15,16,17,18,19,20] (by kernel_rfl) rfl (by refine t_p 10 ?_;exact ZAA rfl) rfl nb (kF (dF nF)) (ZCa rfl rfl (ZAr rfl) ?_)
    refine ZAL [0,1,2,3,4,5,6,7,8,9,10,11,12,13,14,15,16,17,18,19,20,21,22] (by kernel_rfl) rfl (by refine t_p 21 ?_;exact ZAA rfl) rfl nb (dF nF) (ZCa rfl rfl (ZAr rfl) ?_);refine ZAW (ZAA rfl) nb' ?_;refine zy ?_;exact⟨(j+1,d1,true),(by show W.length-(j+1)<W.length-j;omega),rfl,rfl,hj',hf1,ho2,rfl,rfl,rfl,rfl,rfl,rfl,trivial⟩
  ·cases o2
   ·skip
    refine zy ?_;refine ZAQ hmix [0,1,3,3,15,31,63,3,131,511,1023,0,3071,7167,7167,31743,64511,130047,7167,269311,1047551,2096127,2097151,8388607] [0,1,2,3,4,5,6,7,8,11] (some 9) [([10,12,13,14,15,16,17,18,19],(some 20)),([21],(some 22)),([],(some 23)),([],none)] (by kernel_rfl) (by kernel_rfl) ?_;refine z_m ?_;refine z_m ?_;refine g_m ?_;refine g_m ?_;refine z_o ?_;refine g_f ?_;refine g_l ?_;refine g_f ?_;refine g_l ?_;refine z_m ?_;refine ZAL [0,1,2,3,4,5,6,7,8] (by kernel_rfl) rfl (ZAA rfl) rfl nb (kF (dF (dF (dF (dF (dF (dF (dF (dF (dF nF)))))))))) (ZB7 rfl ?_);refine z_p ?_;refine z_m ?_;refine g_m ?_;refine g_m ?_
    first|refine ZAg rfl rfl rfl rfl ?_|refine ZAC rfl rfl rfl rfl rfl (fun _=>A_ix (k:=j) Und.h Tsz.h rfl rfl hj') ?_
    refine g_f ?_;refine g_l ?_;refine g_f ?_;refine g_l ?_;refine ZAL [0,1,2,3,4,5,6,7,8,9,11,12,13,14,15,16,17,18,19] (by kernel_rfl) rfl (by refine t_m 11 ?_;exact ZAA rfl) rfl nb (dF (dF (dF (dF (dF (dF (dF (dF (kF (dF nF)))))))))) (ZAa rfl rfl rfl rfl rfl Bod.h hh2 ?_);refine z_p ?_;refine ZAL [0,1,2,3,4,5,6,7,8,9,10,11,12,13,14,15,16,17,18,19,20] (by kernel_rfl) rfl (by refine t_p 10 ?_;exact ZAA rfl) rfl nb (kF (dF nF)) (ZCa rfl rfl (ZAr rfl) ?_);refine ZAL [0,1,2,3,4,5,6,7,8,9,10,11,12,13,14,15,16,17,18,19,20,21,22] (by kernel_rfl) rfl (by refine t_p 21 ?_;exact ZAA rfl) rfl nb (dF nF) (ZCa rfl rfl (ZAr rfl) ?_)
    refine ZAW (ZAA rfl) nb' ?_;refine zy ?_;exact⟨(j+1,true,d2),(by show W.length-(j+1)<W.length-j;omega),rfl,rfl,hj',ho1,hf2,rfl,rfl,rfl,rfl,rfl,rfl,trivial⟩
   ·skip
    refine zy ?_;refine ZAQ hmix [0,1,3,3,15,31,63,3,131,511,1023,0,3071,7167,7167,31743,64511,130047,7167,269311,1047551,2096127,2097151,8388607] [0,1,2,3,4,5,6,7,8,11] (some 9) [([10,12,13,14,15,16,17,18,19],(some 20)),([21],(some 22)),([],(some 23)),([],none)] (by kernel_rfl) (by kernel_rfl) ?_;refine z_m ?_;refine z_m ?_;refine g_m ?_;refine g_m ?_;refine z_o ?_;refine g_f ?_;refine g_l ?_;refine g_f ?_;refine g_l ?_;refine z_m ?_;refine ZAL [0,1,2,3,4,5,6,7,8] (by kernel_rfl) rfl (ZAA rfl) rfl nb (kF (dF (dF (dF (dF (dF (dF (dF (dF (dF nF)))))))))) (ZB7 rfl ?_);refine z_p ?_;refine z_m ?_;refine g_m ?_;refine g_m ?_;refine z_o ?_;refine g_f ?_;refine g_l ?_;refine g_f ?_;refine g_l ?_
    refine ZAL [0,1,2,3,4,5,6,7,8,9,11,12,13,14,15,16,17,18,19] (by kernel_rfl) rfl (by refine t_m 11 ?_;exact ZAA rfl) rfl nb (dF (dF (dF (dF (dF (dF (dF (dF (kF (dF nF)))))))))) (ZB7 rfl ?_);refine z_p ?_;refine ZAL [0,1,2,3,4,5,6,7,8,9,10,11,12,13,14,15,16,17,18,19,20] (by kernel_rfl) rfl (by refine t_p 10 ?_;exact ZAA rfl) rfl nb (kF (dF nF)) (ZCa rfl rfl (ZAr rfl) ?_);refine ZAL [0,1,2,3,4,5,6,7,8,9,10,11,12,13,14,15,16,17,18,19,20,21,22] (by kernel_rfl) rfl (by refine t_p 21 ?_;exact ZAA rfl) rfl nb (dF nF) (ZCa rfl rfl (ZAr rfl) ?_);refine ZAW (ZAA rfl) nb' ?_;refine zy ?_;exact⟨(j+1,true,true),(by show W.length-(j+1)<W.length-j;omega),rfl,rfl,hj',ho1,ho2,rfl,rfl,rfl,rfl,rfl,rfl,trivial⟩
 have hi':i<W.length:=by omega
 clear hC hD hlast hcs hin;obtain⟨bW,oW,oaW,rfl,row,hrow,an,cn,ai,ci,er,hnm,hit⟩:=hW i hi';have hwi:W[i]?=some W[i]:=List.getElem?_eq_getElem hi';obtain⟨hw1,hw2⟩:=hWn _ (List.getElem_mem hi');have hwne:=(hnms i _ hwi).2;replace hmet:=hmet i _ hwi;replace hmor:=fun k u=>hmor i k _ u hwi;subst er;clear hwi hnms;generalize W[i]=w at *;have hwl0:0<w.1.length:=List.length_pos_iff.2 hwne;have hc0:ZAe h9 bW (oW+i*3+0)=some (.slice an w.1.length cn):=ZAV (k:=0) hrow rfl;have hc1:ZAe h9 bW (oW+i*3+1)=some (.slice ai w.2.1.length ci):=ZAV (k:=1) hrow rfl;obtain⟨bn,on,oan,ean,hcn0⟩:=hnm 0 hwl0;subst ean;obtain⟨z,hz⟩:∃z,z=w.1[0]:=⟨_,rfl⟩
 have hzw:z∈w.1:=by rw[hz];exact List.getElem_mem _
 rw[<-hz] at hcn0;clear hz hwne;refine zy ?_;refine ZAP (fun (st:Nat×Bool) m ds h'=>ds=[]/\h9=h'/\st.1<=B.length/\(∀k u,k<st.1->B[k]?=some u->z∈u.1->st.2=true)/\AllK m [(0,.slice a l.length cap),(3,.pointer (some ⟨b3,0,none⟩)),(5,.slice (some ⟨bW,oW,oaW⟩) W.length cW),(7,.slice aB B.length cB),(9,.slice aC C.length cC),(11,.slice aD D.length cD),(13,i64 (i:Nat)),(14,.bool st.2),(15,i64 (st.1:Nat))]) (fun st=>B.length-st.1) (0,false) ?_ ?_
 ·exact⟨rfl,rfl,Nat.zero_le _,fun k u hk=>absurd hk (Nat.not_lt_zero _),rfl,rfl,rfl,rfl,rfl,rfl,rfl,rfl,rfl,trivial⟩
 rintro⟨k,f⟩ m ds h10 ⟨rfl,rfl,hk,hfd,hall⟩;refine Wc.le ?_ (Le.kn hall);clear hall;simp only at hk hfd ⊢;refine zy ?_;refine ZAS rfl rfl rfl rfl (ZAd rfl rfl) (fun hkl=>?_) (fun hkl=>?_);rotate_left
 ·obtain⟨k',u,hk',hzu⟩:=hmet z hzw
  have hkb:k'<B.length:=by
   have:=List.getElem?_eq_some_iff.1 hk';exact this.1
  have hft:=hfd k' u (by omega) hk' hzu;subst hft;refine zy ?_;exact⟨i+1,(by show W.length-(i+1)<W.length-i;omega),rfl,rfl,hi',rfl,rfl,rfl,rfl,rfl,rfl,rfl,trivial⟩
 have hk':k<B.length:=by omega
 obtain⟨bB,oB,oaB,rfl,row',hrow',an',cn',ai',ci',er',hnm',hit'⟩:=hB k hk';have hbk:B[k]?=some B[k]:=List.getElem?_eq_getElem hk';obtain⟨hb1,hb2⟩:=hBn _ (List.getElem_mem hk');have hmk:=hmor k _ hbk z hzw
 have hfd':∀g:Bool,(z∈B[k].1->g=true)->(f=true->g=true)->∀j u,j<k+1->B[j]?=some u->z∈u.1->g=true:=fun g g1 g2 j u hj hju hzu=>by
  rcases Nat.lt_succ_iff_lt_or_eq.1 hj with hj|rfl
  ·exact g2 (hfd j u hj hju hzu)
  ·rw[hbk] at hju
   rw[<-Option.some.inj hju] at hzu;exact g1 hzu
 subst er';clear hbk hfd hmet hmor;generalize B[k]=u at *;have hd0:ZAe h9 bB (oB+k*3+0)=some (.slice an' u.1.length cn'):=ZAV (k:=0) hrow' rfl;have hd1:ZAe h9 bB (oB+k*3+1)=some (.slice ai' u.2.1.length ci'):=ZAV (k:=1) hrow' rfl;have hhas:=ZDq (cap:=cn') (k:=z) hnm' (show _<_ by omega);refine zy ?_
 by_cases hzu:z∈u.1
 rotate_left
 ·rw[decide_eq_false hzu] at hhas
  refine ZAQ hmix [0,0,3,7,15,31,63,127,255,255,1023,2047,4095,255,255,24831,57599,123135,254207,516351,1048575,2097151,4194303] [0,1,2,3,4,5,6,7,8,9,10,11,12,13,14,15,16,17,18,19] (some 20) [([21,22],none)] (by kernel_rfl) (by kernel_rfl) ?_;refine z_m ?_;refine z_m ?_;refine ZAC rfl rfl rfl rfl rfl (fun _=>A_ix (k:=i) Und.h Tsz.h rfl rfl hi') ?_;refine z_f ?_;refine z_l ?_;refine z_c ?_;refine ZAC rfl rfl rfl rfl rfl (fun _=>A_ff (by omega) (ZBV rfl rfl)) ?_;refine z_m ?_;refine g_m ?_;refine g_m ?_
  first|refine ZAg rfl rfl rfl rfl ?_|refine ZAC rfl rfl rfl rfl rfl (fun _=>A_ix (k:=k) Und.h Tsz.h rfl rfl hk') ?_
  refine g_f ?_;refine g_l ?_;refine g_m ?_;refine g_m ?_
  first|refine ZAg rfl rfl rfl rfl ?_|refine ZAC rfl rfl rfl rfl rfl (fun _=>A_ix (k:=i) Und.h Tsz.h rfl rfl hi') ?_
  refine g_f ?_;refine g_l ?_
  first|refine ZAg rfl rfl rfl rfl ?_|refine ZAC rfl rfl rfl rfl rfl (fun _=>A_ix (k:=0) Und.h Tsz.h rfl rfl hwl0) ?_
  refine g_l ?_;refine ZAL [0,1,2,3,4,5,6,7,8,9,10,11,12,13,14,15,16,17,18,19] (by kernel_rfl) rfl (ZAA rfl) rfl nb (dF (dF (dF (dF (dF (dF (dF (dF (dF (dF (dF (dF (dF (dF (dF (dF (dF (dF (dF (dF nF)))))))))))))))))))) (ZAa rfl rfl rfl rfl rfl Bod.h hhas ?_);refine g_n ?_;refine z_p ?_;refine ZAW (ZAA rfl) nb' ?_;refine zy ?_;exact⟨(k+1,f),(by show B.length-(k+1)<B.length-k;omega),rfl,rfl,hk',hfd' f (fun q=>absurd q hzu) id,rfl,rfl,rfl,rfl,rfl,rfl,rfl,rfl,rfl,trivial⟩
 rw[decide_eq_true hzu] at hhas;refine ZAQ hmix [0,0,3,7,15,31,63,127,255,255,1023,2047,4095,255,255,24831,57599,123135,254207,516351,1048575,2097151,4194303] [0,1,2,3,4,5,6,7,8,9,10,11,12,13,14,15,16,17,18,19] (some 20) [([21,22],none)] (by kernel_rfl) (by kernel_rfl) ?_;refine z_m ?_;refine z_m ?_;refine ZAC rfl rfl rfl rfl rfl (fun _=>A_ix (k:=i) Und.h Tsz.h rfl rfl hi') ?_;refine z_f ?_;refine z_l ?_;refine z_c ?_;refine ZAC rfl rfl rfl rfl rfl (fun _=>A_ff (by omega) (ZBV rfl rfl)) ?_;refine z_m ?_;refine g_m ?_;refine g_m ?_
 first|refine ZAg rfl rfl rfl rfl ?_|refine ZAC rfl rfl rfl rfl rfl (fun _=>A_ix (k:=k) Und.h Tsz.h rfl rfl hk') ?_
 refine g_f ?_;refine g_l ?_;refine g_m ?_;refine g_m ?_
 first|refine ZAg rfl rfl rfl rfl ?_|refine ZAC rfl rfl rfl rfl rfl (fun _=>A_ix (k:=i) Und.h Tsz.h rfl rfl hi') ?_
 refine g_f ?_;refine g_l ?_
 first|refine ZAg rfl rfl rfl rfl ?_|refine ZAC rfl rfl rfl rfl rfl (fun _=>A_ix (k:=0) Und.h Tsz.h rfl rfl hwl0) ?_
 refine g_l ?_;refine ZAL [0,1,2,3,4,5,6,7,8,9,10,11,12,13,14,15,16,17,18,19] (by kernel_rfl) rfl (ZAA rfl) rfl nb (dF (dF (dF (dF (dF (dF (dF (dF (dF (dF (dF (dF (dF (dF (dF (dF (dF (dF (dF (dF nF)))))))))))))))))))) (ZAa rfl rfl rfl rfl rfl Bod.h hhas ?_);refine g_n ?_;refine z_p ?_;refine ZAW (ZAA rfl) nb' ?_;refine zy ?_;refine ZAP (fun (n:Nat) m ds h'=>ds=[]/\h9=h'/\n<=w.1.length/\AllK m [(0,.slice a l.length cap),(3,.pointer (some ⟨b3,0,none⟩)),(5,.slice (some ⟨bW,oW,oaW⟩) W.length cW),(7,.slice (some ⟨bB,oB,oaB⟩) B.length cB),(9,.slice aC C.length cC),(11,.slice aD D.length cD),(13,i64 (i:Nat)),(14,.bool true),(15,i64 (k:Nat)),(16,i64 (n:Nat))]) (fun n=>w.1.length-n) 0 ?_ ?_
 ·exact⟨rfl,rfl,Nat.zero_le _,rfl,rfl,rfl,rfl,rfl,rfl,rfl,rfl,rfl,rfl,trivial⟩
 rintro n m ds h11 ⟨rfl,rfl,hnw,hall⟩;refine Wc.le ?_ (Le.kn hall);clear hall;refine zy ?_;refine ZAD rfl rfl rfl rfl (A_ix (k:=i) Und.h Tsz.h rfl rfl hi') ?_;refine zy ?_;refine ZAS rfl rfl rfl rfl (ZAd rfl rfl) (fun hnl=>?_) (fun hnl=>?_);rotate_left
 ·clear hhas
  refine zy ?_;refine ZAP (fun (n:Nat) m ds h'=>ds=[]/\h9=h'/\n<=w.2.1.length/\AllK m [(0,.slice a l.length cap),(3,.pointer (some ⟨b3,0,none⟩)),(5,.slice (some ⟨bW,oW,oaW⟩) W.length cW),(7,.slice (some ⟨bB,oB,oaB⟩) B.length cB),(9,.slice aC C.length cC),(11,.slice aD D.length cD),(13,i64 (i:Nat)),(14,.bool true),(15,i64 (k:Nat)),(17,i64 (n:Nat))]) (fun n=>w.2.1.length-n) 0 ?_ ?_
  ·exact⟨rfl,rfl,Nat.zero_le _,rfl,rfl,rfl,rfl,rfl,rfl,rfl,rfl,rfl,rfl,trivial⟩
  rintro n m ds h11 ⟨rfl,rfl,hnw,hall⟩;refine Wc.le ?_ (Le.kn hall);clear hall;refine zy ?_;refine ZAD rfl rfl rfl rfl (A_ix (k:=i) Und.h Tsz.h rfl rfl hi') ?_;refine zy ?_;refine ZAS rfl rfl rfl rfl (ZAd rfl rfl) (fun hnl=>?_) (fun hnl=>?_);rotate_left
  ·refine zy ?_
   exact⟨(k+1,true),(by show B.length-(k+1)<B.length-k;omega),rfl,rfl,hk',hfd' true (fun _=>rfl) (fun _=>rfl),rfl,rfl,rfl,rfl,rfl,rfl,rfl,rfl,rfl,trivial⟩
  have hn':n<w.2.1.length:=by omega
  obtain⟨bn2,on2,oan2,ean,hcn⟩:=hit n hn';cases ean;have hmem:=(hmk hzu).2 _ (List.getElem_mem hn');generalize w.2.1[n]=y at *;have hh2:=ZDq (cap:=ci') (k:=y) hit' (show _<_ by omega);rw[decide_eq_true hmem] at hh2;refine zy ?_;refine ZAQ hmix [0,1,3,3,15,31,63,3,3,387,899,1923,3,8067,16259,32767,65535,131071] [0,1,2,3,4,5,6,7,8,9,10,11,12,13,14] (some 15) [([16],(some 17)),([],none)] (by kernel_rfl) (by kernel_rfl) ?_;refine z_m ?_;refine z_m ?_;refine g_m ?_;refine g_m ?_
  first|refine ZAg rfl rfl rfl rfl ?_|refine ZAC rfl rfl rfl rfl rfl (fun _=>A_ix (k:=k) Und.h Tsz.h rfl rfl hk') ?_
  refine g_f ?_;refine g_l ?_;refine g_m ?_;refine g_m ?_
  first|refine ZAg rfl rfl rfl rfl ?_|refine ZAC rfl rfl rfl rfl rfl (fun _=>A_ix (k:=i) Und.h Tsz.h rfl rfl hi') ?_
  refine g_f ?_;refine g_l ?_;refine g_m ?_
  first|refine ZAg rfl rfl rfl rfl ?_|refine ZAC rfl rfl rfl rfl rfl (fun _=>A_ix (k:=n) Und.h Tsz.h rfl rfl hn') ?_
  refine g_l ?_;refine ZAL [0,1,2,3,4,5,6,7,8,9,10,11,12,13,14] (by kernel_rfl) rfl (ZAA rfl) rfl nb (dF (dF (dF (dF (dF (dF (dF (dF (dF (dF (dF (dF (dF (dF (dF nF))))))))))))))) (ZAa rfl rfl rfl rfl rfl Bod.h hh2 ?_);refine z_p ?_;refine ZAL [0,1,2,3,4,5,6,7,8,9,10,11,12,13,14,15,16] (by kernel_rfl) rfl (ZAA rfl) rfl nb (dF nF) (ZCa rfl rfl (ZAr rfl) ?_);refine ZAW (ZAA rfl) nb' ?_;refine zy ?_;exact⟨n+1,(by show w.2.1.length-(n+1)<w.2.1.length-n;omega),rfl,rfl,hn',rfl,rfl,rfl,rfl,rfl,rfl,rfl,rfl,rfl,rfl,trivial⟩
 have hn':n<w.1.length:=by omega
 obtain⟨bn2,on2,oan2,ean,hcn⟩:=hnm n hn';cases ean;have hmem:=(hmk hzu).1 _ (List.getElem_mem hn');generalize w.1[n]=y at *;have hh2:=ZDq (cap:=cn') (k:=y) hnm' (show _<_ by omega);rw[decide_eq_true hmem] at hh2;refine zy ?_;refine ZAQ hmix [0,1,3,3,15,31,63,3,3,387,899,1923,3,8067,16259,32767,65535,131071] [0,1,2,3,4,5,6,7,8,9,10,11,12,13,14] (some 15) [([16],(some 17)),([],none)] (by kernel_rfl) (by kernel_rfl) ?_;refine z_m ?_;refine z_m ?_;refine g_m ?_;refine g_m ?_
 first|refine ZAg rfl rfl rfl rfl ?_|refine ZAC rfl rfl rfl rfl rfl (fun _=>A_ix (k:=k) Und.h Tsz.h rfl rfl hk') ?_
 refine g_f ?_;refine g_l ?_;refine g_m ?_;refine g_m ?_
 first|refine ZAg rfl rfl rfl rfl ?_|refine ZAC rfl rfl rfl rfl rfl (fun _=>A_ix (k:=i) Und.h Tsz.h rfl rfl hi') ?_
 refine g_f ?_;refine g_l ?_;refine g_m ?_
 first|refine ZAg rfl rfl rfl rfl ?_|refine ZAC rfl rfl rfl rfl rfl (fun _=>A_ix (k:=n) Und.h Tsz.h rfl rfl hn') ?_
 refine g_l ?_;refine ZAL [0,1,2,3,4,5,6,7,8,9,10,11,12,13,14] (by kernel_rfl) rfl (ZAA rfl) rfl nb (dF (dF (dF (dF (dF (dF (dF (dF (dF (dF (dF (dF (dF (dF (dF nF))))))))))))))) (ZAa rfl rfl rfl rfl rfl Bod.h hh2 ?_);refine z_p ?_;refine ZAL [0,1,2,3,4,5,6,7,8,9,10,11,12,13,14,15,16] (by kernel_rfl) rfl (ZAA rfl) rfl nb (dF nF) (ZCa rfl rfl (ZAr rfl) ?_);refine ZAW (ZAA rfl) nb' ?_;refine zy ?_;exact⟨n+1,(by show w.1.length-(n+1)<w.1.length-n;omega),rfl,rfl,hn',rfl,rfl,rfl,rfl,rfl,rfl,rfl,rfl,rfl,rfl,trivial⟩
end Go.Dw
