/- WH: chapter 12 with no program in sight: what is the same work; the strings that stand for others. -/
import Derived.Test.YthlmgoefjmlndaaGreatDoorYG5
import Derived.Test.YthlmgoefjmlndaaGreatDoorYG8
set_option linter.unusedVariables false
set_option linter.unusedSimpArgs false
namespace Go.Dw
open Go
inductive Conn (s:List WkR):Str->Str->Prop where
 | refl (k:Str):Conn s k k
 | step {a b c:Str} (h:Conn s a b) (hc:c∈nxtW s b):Conn s a c
theorem Conn.trans {s:List WkR}{a b c:Str}(h1:Conn s a b)(h2:Conn s b c):Conn s a c:=by
 induction h2 with
 | refl=>exact h1
 | step _ hc ih=>exact ih.step hc
theorem Conn.symm {s:List WkR}{a b:Str}(h:Conn s a b):Conn s b a:=by
 induction h with
 | refl=>exact .refl _
 | step _ hc ih=>exact (Conn.step (.refl _) (ZQB.1 hc)).trans ih
theorem ZGm {s:List WkR}{k z:Str}(h:z∈nxtW s k):z∈nodW s:=by
 unfold nodW;refine List.mem_append_left _ (List.mem_append_left _ (ZGr.2 ?_))
 rcases ZFN.1 h with q|q
 ·exact⟨_,q,.inr rfl⟩
 ·exact⟨_,q,.inl rfl⟩
theorem Conn.nod {s:List WkR}{a b:Str}(h:Conn s a b)(ha:a∈nodW s):b∈nodW s:=by
 induction h with
 | refl=>exact ha
 | step _ hc _=>exact ZGm hc
theorem ZMX {v:Str}:∀(l:List Str)(Q:List QE),∀z∈l,z∈(l.foldl (addQ v) Q).map Prod.fst
 | [],_,_,h=>nomatch h
 | y::l,Q,z,h=>by
  rw[List.foldl_cons]
  rcases List.mem_cons.1 h with rfl|h
  ·obtain⟨R,e⟩:=ZGs v l (addQ v Q z)
   rw[e,List.map_append];refine List.mem_append_left _ ?_;unfold addQ
   split
   ·assumption
   ·rw[List.map_append];exact List.mem_append_right _ (by simp)
  ·exact ZMX l _ z h
theorem ZNM (nxt:Str->List Str)(a:Str):∀i j e,j<i->(bfsQ nxt a i)[j]?=some e->∀z∈nxt e.1,z∈(bfsQ nxt a i).map Prod.fst
 | 0,_,_,h,_,_,_=>absurd h (Nat.not_lt_zero _)
 | i+1,j,e,h,hj,z,hz=>by
  obtain⟨R,hR⟩:=ZI8 nxt a i (i+1) (Nat.le_succ i)
  rcases Nat.lt_or_ge j (bfsQ nxt a i).length with q|q
  ·have hj0:(bfsQ nxt a i)[j]?=some e:=by rw[hR,List.getElem?_append_left q] at hj;exact hj
   rcases Nat.lt_or_ge j i with q2|q2
   ·have:=ZNM nxt a i j e q2 hj0 z hz
    rw[hR,List.map_append];exact List.mem_append_left _ this
   ·obtain rfl:j=i:=by omega
    rw[bfsQ,hj0];exact ZMX _ _ z hz
  ·rcases Nat.lt_or_ge i (bfsQ nxt a i).length with q2|q2
   ·omega
   ·rw[ZLN q2 (i+1) (Nat.le_succ i)] at hj
    rw[List.getElem?_eq_none q] at hj;cases hj
def ZNb (s:List WkR)(k:Str):List Str:=(bfsQ (nxtW s) k (nodW s).length).map Prod.fst
theorem ZSy {s:List WkR}{k:Str}(hk:k∈nodW s)(i:Nat):(bfsQ (nxtW s) k i).length<=(nodW s).length:=by
 have:=ZA2 (QOK.bfs (nxtW s) k i).nd (m:=nodW s) fun z hz=>by
  obtain⟨e,he,rfl⟩:=List.mem_map.1 hz;exact ZO9 (N:=fun z=>z∈nodW s) hk (fun v _ z hz=>ZGm hz) i e he
 rwa [List.length_map] at this
theorem ZKA {s:List WkR}{k v:Str}(hv:Conn s k v):∀(l:List Str){Q:List QE},(∀z∈l,z∈nxtW s v)->(∀e∈Q,Conn s k e.1)->∀e∈l.foldl (addQ v) Q,Conn s k e.1
 | [],_,_,h=>h
 | z::l,Q,hl,h=>by
  rw[List.foldl_cons];refine ZKA hv l (fun z hz=>hl z (List.mem_cons_of_mem _ hz)) fun e he=>?_;unfold addQ at he
  split at he
  ·exact h e he
  ·rcases List.mem_append.1 he with he|he
   ·exact h e he
   ·rw[List.mem_singleton.1 he];exact hv.step (hl z List.mem_cons_self)
theorem ZMg (s:List WkR)(k:Str):∀i,∀e∈bfsQ (nxtW s) k i,Conn s k e.1
 | 0,e,he=>by
  have:e=(k,[]):=by simpa [bfsQ] using he
  rw[this];exact .refl _
 | i+1,e,he=>by
  have h:=ZMg s k i;unfold bfsQ at he
  split at he
  ·exact h e he
  ·rename_i e0 he0
   exact ZKA (h e0 (List.mem_of_getElem? he0)) _ (fun _ h=>h) h e he
theorem ZPl {s:List WkR}{k z:Str}(hk:k∈nodW s):z∈ZNb s k ↔ Conn s k z:=by
 unfold ZNb
 constructor
 ·intro h
  obtain⟨e,he,rfl⟩:=List.mem_map.1 h;exact ZMg s k _ e he
 ·intro h
  induction h with
  | refl =>
   have:=(QOK.bfs (nxtW s) k (nodW s).length).hd;exact List.mem_map.2 ⟨_,List.mem_of_getElem? this,rfl⟩
  | step _ hc ih =>
   obtain⟨e,he,rfl⟩:=List.mem_map.1 ih;obtain⟨j,hj,rfl⟩:=List.getElem_of_mem he;have hjl:=ZSy hk (nodW s).length;exact ZNM (nxtW s) k _ j _ (by omega) (List.getElem?_eq_getElem hj) _ hc
def repW (s:List WkR)(k:Str):Str:=(mrgU ltB (ZNb s k)).headD []
theorem ZH1 {s:List WkR}{k:Str}(hk:k∈nodW s):Conn s k (repW s k)/\∀z,Conn s k z->¬ltB z (repW s k):=by
 have hup:=ZCc ZAJ (ZNb s k);have hm:∀z,z∈mrgU ltB (ZNb s k) ↔ Conn s k z:=fun z=>by rw[ZBK ZAJ,ZPl hk]
 unfold repW
 cases hq:mrgU ltB (ZNb s k) with
 | nil =>
  have:=(hm k).2 (.refl k);rw[hq] at this;cases this
 | cons y l =>
  rw[hq] at hup hm;refine⟨(hm y).1 List.mem_cons_self,fun z hz hlt=>?_⟩
  rcases List.mem_cons.1 ((hm z).2 hz) with rfl|h
  ·exact ZAJ.irr _ hlt
  ·exact ZAJ.irr _ (ZAJ.tr hlt ((List.pairwise_cons.1 hup).1 z h))
theorem ZPq {s:List WkR}{k r:Str}(hk:k∈nodW s)(h1:Conn s k r)(h2:∀z,Conn s k z->¬ltB z r):r=repW s k:=by
 obtain⟨g1,g2⟩:=ZH1 hk
 rcases ZAJ.tri r (repW s k) with q|q|q
 ·exact absurd q (g2 r h1)
 ·exact q
 ·exact absurd q (h2 _ g1)
theorem ZQN {s:List WkR}{a b:Str}(ha:a∈nodW s)(hb:b∈nodW s):repW s a=repW s b ↔ Conn s a b:=by
 obtain⟨g1,g2⟩:=ZH1 ha;obtain⟨k1,k2⟩:=ZH1 hb
 constructor
 ·intro e
  rw[e] at g1;exact g1.trans k1.symm
 ·intro h
  exact ZPq hb (h.symm.trans g1) fun z hz=>g2 z (h.trans hz)
structure UF (N:List Str)(M:Str->Option Str)(r:Str->Str):Prop where
 no:∀k,M k=none->r k=k
 same:∀k,M k=some k->r k=k
 up:∀k u,M k=some u->u≠k->ltB u k/\u∈N/\r u=r k
 idem:∀k,r (r k)=r k
 root:∀k,M (r k)=none\/M (r k)=some (r k)
 nod:∀k∈N,r k∈N
theorem UF.init (N:List Str):UF N (fun _=>none) id:=⟨fun _ _=>rfl,fun _ _=>rfl,(fun _ _ h=>nomatch h),fun _=>rfl,fun _=>.inl rfl,fun _ h=>h⟩
def uniR (r:Str->Str)(x y k:Str):Str:=if r k=maxB (r x) (r y) then minB (r x) (r y) else r k
theorem ZFm (a b:Str):(minB a b=a/\maxB a b=b)\/(minB a b=b/\maxB a b=a):=by
 unfold minB maxB
 split
 ·exact .inr ⟨rfl,rfl⟩
 ·exact .inl ⟨rfl,rfl⟩
theorem ZSu {a b:Str}(h:minB a b≠maxB a b):ltB (minB a b) (maxB a b):=by
 unfold minB maxB at *
 split at h
 ·rename_i q
  simp only[q,if_true]
 ·rename_i q
  simp only[q,if_false] at h ⊢
  rcases ZAJ.tri a b with g|g|g
  ·exact g
  ·exact absurd g h
  ·exact absurd g q
theorem UF.uni {N:List Str}{M:Str->Option Str}{r:Str->Str}(h:UF N M r){x y:Str}(hx:x∈N)(hy:y∈N) :
  UF N (fun k=>if k=maxB (r x) (r y) then some (minB (r x) (r y)) else M k) (uniR r x y):=by
 have hrx:=h.idem x;have hry:=h.idem y;have hnx:=h.nod x hx;have hny:=h.nod y hy;have hM1:=h.root x;have hM2:=h.root y;have hmin:r (minB (r x) (r y))=minB (r x) (r y):=by
  rcases ZFm (r x) (r y) with ⟨e,-⟩|⟨e,-⟩ <;> rw[e] <;> assumption
 have hmax:r (maxB (r x) (r y))=maxB (r x) (r y):=by
  rcases ZFm (r x) (r y) with ⟨-,e⟩|⟨-,e⟩ <;> rw[e] <;> assumption
 have hnm:minB (r x) (r y)∈N:=by
  rcases ZFm (r x) (r y) with ⟨e,-⟩|⟨e,-⟩ <;> rw[e] <;> assumption
 have hMm:M (minB (r x) (r y))=none\/M (minB (r x) (r y))=some (minB (r x) (r y)):=by
  rcases ZFm (r x) (r y) with ⟨e,-⟩|⟨e,-⟩ <;> rw[e] <;> assumption
 have hlt:=@ZSu (r x) (r y);unfold uniR;generalize minB (r x) (r y)=n at *;generalize maxB (r x) (r y)=m at *
 have hrn:∀k,(if r (if r k=m then n else r k)=m then n else r (if r k=m then n else r k))=if r k=m then n else r k:=fun k=>by
  by_cases e:r k=m
  ·rw[if_pos e,hmin]
   by_cases e2:n=m
   ·rw[if_pos e2]
   ·rw[if_neg e2]
  ·rw[if_neg e,h.idem,if_neg e]
 constructor
 ·intro k hk
  by_cases e:k=m
  ·rw[if_pos e] at hk;cases hk
  ·rw[if_neg e] at hk
   have:=h.no k hk;rw[this,if_neg e]
 ·intro k hk
  by_cases e:k=m
  ·rw[if_pos e] at hk
   have e2:=Option.some.inj hk;have:r k=m:=by rw[e];exact hmax
   rw[if_pos this];exact e2
  ·rw[if_neg e] at hk
   have:=h.same k hk;rw[this,if_neg e]
 ·intro k u hk hne
  by_cases e:k=m
  ·rw[if_pos e] at hk
   have e2:=Option.some.inj hk;subst e2;have hnm':n≠m:=fun q=>hne (q.trans e.symm);refine⟨by rw[e];exact hlt hnm',hnm,?_⟩;have:r k=m:=by rw[e];exact hmax
   rw[if_pos this,hmin,if_neg hnm']
  ·rw[if_neg e] at hk
   obtain⟨q1,q2,q3⟩:=h.up k u hk hne;exact⟨q1,q2,by rw[q3]⟩
 ·exact hrn
 ·intro k
  by_cases e:r k=m
  ·rw[if_pos e]
   by_cases e2:n=m
   ·rw[if_pos e2];exact .inr rfl
   ·rw[if_neg e2];exact hMm
  ·rw[if_neg e,if_neg e]
   exact h.root k
 ·intro k hk
  split
  ·exact hnm
  ·exact h.nod k hk
theorem ZRT {r:Str->Str}(hi:∀k,r (r k)=r k)(x y:Str):uniR r x y x=uniR r x y y:=by
 unfold uniR
 rcases ZFm (r x) (r y) with ⟨e1,e2⟩|⟨e1,e2⟩
 ·rw[e1,e2]
  simp
 ·rw[e1,e2]
  simp
theorem ZJ1 {r:Str->Str}{x y a b:Str}(h:r a=r b):uniR r x y a=uniR r x y b:=by
 unfold uniR;rw[h]
theorem ZO2 {s:List WkR}{r:Str->Str}{x y:Str}(h:∀k,Conn s k (r k))(hxy:Conn s x y)(k:Str):Conn s k (uniR r x y k):=by
 unfold uniR
 by_cases e:r k=maxB (r x) (r y)
 ·rw[if_pos e]
  have hk:=h k;rw[e] at hk
  rcases ZFm (r x) (r y) with ⟨e1,e2⟩|⟨e1,e2⟩
  ·rw[e1]
   rw[e2] at hk;exact hk.trans ((h y).symm.trans (hxy.symm.trans (h x)))
  ·rw[e1]
   rw[e2] at hk;exact hk.trans ((h x).symm.trans (hxy.trans (h y)))
 ·rw[if_neg e];exact h k
theorem ZP1 {N:List Str}{u k:Str}(q1:ltB u k)(q2:u∈N):(N.filter fun z=>decide (ltB z u)).length<(N.filter fun z=>decide (ltB z k)).length:=by
 induction N with
 | nil=>cases q2
 | cons x N ih =>
  have hle:(N.filter fun z=>decide (ltB z u)).length<=(N.filter fun z=>decide (ltB z k)).length:=by
   clear ih q2
   induction N with
   | nil=>exact Nat.le_refl _
   | cons y N ih =>
    rw[List.filter_cons,List.filter_cons]
    by_cases h1:ltB y u
    ·rw[if_pos (decide_eq_true h1),if_pos (decide_eq_true (ZAJ.tr h1 q1))]
     simpa using ih
    ·rw[if_neg (by simpa using h1)]
     split
     ·rw[List.length_cons];omega
     ·exact ih
  rw[List.filter_cons,List.filter_cons]
  rcases List.mem_cons.1 q2 with rfl|q2
  ·rw[if_neg (by simp),if_pos (decide_eq_true q1),List.length_cons]
   omega
  ·have:=ih q2
   by_cases h1:ltB x u
   ·rw[if_pos (decide_eq_true h1),if_pos (decide_eq_true (ZAJ.tr h1 q1)),List.length_cons,List.length_cons];omega
   ·rw[if_neg (by simpa using h1)]
    split
    ·rw[List.length_cons];omega
    ·exact this
theorem UF.done {s:List WkR}{M:Str->Option Str}{r:Str->Str}(h:UF (nodW s) M r)(hc:∀k,Conn s k (r k))(ht:∀k∈nodW s,∀z∈nxtW s k,r z=r k){k:Str}(hk:k∈nodW s):r k=repW s k:=by
 have hle:∀n k,((nodW s).filter fun z=>decide (ltB z k)).length<=n->¬ltB k (r k):=by
  intro n
  induction n with
  | zero =>
   intro k hn
   cases hM:M k with
   | none=>rw[h.no k hM];exact ZAJ.irr k
   | some u =>
    by_cases e:u=k
    ·rw[h.same k (e ▸ hM)];exact ZAJ.irr k
    ·obtain⟨q1,q2,-⟩:=h.up k u hM e
     have:u∈(nodW s).filter fun z=>decide (ltB z k):=List.mem_filter.2 ⟨q2,decide_eq_true q1⟩;have:=List.length_pos_of_mem this;omega
  | succ n ih =>
   intro k hn
   cases hM:M k with
   | none=>rw[h.no k hM];exact ZAJ.irr k
   | some u =>
    by_cases e:u=k
    ·rw[h.same k (e ▸ hM)];exact ZAJ.irr k
    ·obtain⟨q1,q2,q3⟩:=h.up k u hM e
     have hu:=ih u (by
      have hsub:((nodW s).filter fun z=>decide (ltB z u)).length<((nodW s).filter fun z=>decide (ltB z k)).length:=ZP1 q1 q2;omega)
     rw[q3] at hu;intro hlt;exact hu (ZAJ.tr q1 hlt)
 have hcr:∀z,Conn s k z->r z=r k:=fun z hz=>by
  have:∀a b,Conn s a b->a∈nodW s->r b=r a:=fun a b hab=>by
   induction hab with
   | refl=>intro _;rfl
   | step hab hc ih =>
    intro ha;rw[ht _ (hab.nod ha) _ hc,ih ha]
  exact this k z hz hk
 refine ZPq hk (hc k) fun z hz hlt=>?_;have:=hcr z hz;exact hle _ z (Nat.le_refl _) (by rw[this];exact hlt)
def titN (o:Option WkR)(x:WkR):Option WkR:=match o with
 | none=>some x
 | some y=>if y.day<x.day then some x else some y
def titS (r:Str->Str)(p:List WkR)(k:Str):Option WkR:=p.foldl (fun o x=>if r x.a=k then titN o x else o) none
theorem ZFL (r:Str->Str)(p:List WkR)(x:WkR)(k:Str):titS r (p++[x]) k=if r x.a=k then titN (titS r p k) x else titS r p k:=by
 unfold titS;rw[List.foldl_append];rfl
def titB (r:Str->Str)(p:List WkR)(k:Str):Str:=((titS r p k).map WkR.b).getD []
def ZBy (k:Str):Bool:=decide (k.take 1=[35])
def ZHq (l:List Str):List Str:=l.foldl (fun R q=>if q∈R then R else R++[q]) []
theorem ZFv (l:List Str)(q:Str):ZHq (l++[q])=if q∈ZHq l then ZHq l else ZHq l++[q]:=by
 unfold ZHq;rw[List.foldl_append];rfl
theorem ZG8 (l:List Str):(ZHq l).Nodup:=by
 induction l using ZET with
 | h0=>simp[ZHq]
 | h1 l x ih =>
  rw[ZFv]
  split
  ·exact ih
  ·rename_i h
   rw[List.nodup_append];refine⟨ih,by simp,fun a ha b hb e=>h ?_⟩;rw[List.mem_singleton] at hb;rw[<-hb,<-e];exact ha
theorem ZGz {l:List Str}{q:Str}:q∈ZHq l ↔ q∈l:=by
 induction l using ZET with
 | h0=>simp[ZHq]
 | h1 l x ih =>
  rw[ZFv,List.mem_append,List.mem_singleton]
  split
  ·rename_i h
   rw[ih]
   constructor
   ·exact .inl
   ·rintro (q2|rfl)
    ·exact q2
    ·exact ih.1 h
  ·rw[List.mem_append,List.mem_singleton,ih]
theorem ZPr (l:List Str):(ZHq l).length<=l.length:=ZA2 (ZG8 l) fun _ h=>ZGz.1 h
abbrev WkO:=List Str×List Str×Str
def ZBW (r tit:Str->Str)(p1 p2:List Str)(q:Str):WkO :=
 ((p1.filter fun k=>!ZBy k).filter (fun k=>decide (r k=q)),((p2.filter ZBy).filter fun k=>decide (r k=q)).map (List.drop 1),tit q)
def ZCF (r:Str->Str)(p1:List Str):List Str:=ZHq ((p1.filter fun k=>!ZBy k).map r)
def ZBu (r tit:Str->Str)(p1 p2:List Str):List WkO:=(ZCF r p1).map (ZBW r tit p1 p2)
theorem ZHi (r:Str->Str)(p:List Str):(ZCF r p).Nodup:=ZG8 _
theorem map_set {R:List Str}{q:Str}{F F':Str->WkO}(hn:R.Nodup)(hq:q∈R)(h:∀z,z≠q->F' z=F z):R.map F'=(R.map F).set (R.idxOf q) (F' q):=by
 apply List.ext_getElem?;intro t;rw[List.getElem?_set,List.getElem?_map,List.getElem?_map,List.length_map];have hlt:=List.idxOf_lt_length_of_mem hq
 by_cases e:R.idxOf q=t
 ·rw[if_pos e,if_pos (by omega),<-e,List.getElem?_eq_getElem hlt,List.getElem_idxOf];rfl
 ·rw[if_neg e]
  cases hz:R[t]? with
  | none=>rfl
  | some z =>
   have hne:z≠q:=fun q2=>by
    obtain⟨h1,h2⟩:=List.getElem?_eq_some_iff.1 hz;have:R[R.idxOf q]=R[t]:=by rw[List.getElem_idxOf,h2,q2]
    exact e ((List.getElem_inj hn).1 this)
   simp[h z hne]
theorem ZEN {r:Str->Str}{p:List Str}{k:Str}(hk:ZBy k=false):ZCF r (p++[k])=if r k∈ZCF r p then ZCF r p else ZCF r p++[r k]:=by
 unfold ZCF;rw[List.filter_append,List.map_append];have:[k].filter (fun k=>!ZBy k)=[k]:=by simp[hk]
 rw[this];exact ZFv _ _
theorem ZIg {r:Str->Str}{p:List Str}{k:Str}(hk:ZBy k=true):ZCF r (p++[k])=ZCF r p:=by
 unfold ZCF;rw[List.filter_append];have:[k].filter (fun k=>!ZBy k)=[]:=by simp[hk]
 rw[this,List.append_nil]
theorem ZLH {r tit:Str->Str}{p p2:List Str}{k:Str}(hk:ZBy k=true):ZBW r tit (p++[k]) p2=ZBW r tit p p2:=by
 funext q
 unfold ZBW;rw[List.filter_append];have:[k].filter (fun k=>!ZBy k)=[]:=by simp[hk]
 rw[this,List.append_nil]
theorem ZEU {r tit:Str->Str}{p p2:List Str}{k:Str}(hk:ZBy k=false)(q:Str):ZBW r tit (p++[k]) p2 q=((ZBW r tit p p2 q).1++if r k=q then [k] else [],(ZBW r tit p p2 q).2):=by
 unfold ZBW;rw[List.filter_append,List.filter_append];have:[k].filter (fun k=>!ZBy k)=[k]:=by simp[hk]
 rw[this]
 by_cases e:r k=q <;> simp[e]
theorem ZLC {r tit:Str->Str}{p1 p:List Str}{k:Str}(hk:ZBy k=false):ZBW r tit p1 (p++[k])=ZBW r tit p1 p:=by
 funext q
 unfold ZBW;rw[List.filter_append (p:=ZBy)];have:[k].filter ZBy=[]:=by simp[hk]
 rw[this,List.append_nil]
theorem ZIO {r tit:Str->Str}{p1 p:List Str}{k:Str}(hk:ZBy k=true)(q:Str):ZBW r tit p1 (p++[k]) q=((ZBW r tit p1 p q).1,(ZBW r tit p1 p q).2.1++(if r k=q then [k.drop 1] else []),(ZBW r tit p1 p q).2.2):=by
 unfold ZBW;rw[List.filter_append (p:=ZBy),List.filter_append];have:[k].filter ZBy=[k]:=by simp[hk]
 rw[this]
 by_cases e:r k=q <;> simp[e]
theorem ZN5 {r tit:Str->Str}{p p2:List Str}{k:Str}(hk:ZBy k=false)(hq:r k∈ZCF r p):ZBu r tit (p++[k]) p2=(ZBu r tit p p2).set ((ZCF r p).idxOf (r k)) ((ZBW r tit p p2 (r k)).1++[k],(ZBW r tit p p2 (r k)).2):=by
 unfold ZBu;rw[ZEN hk,if_pos hq];rw[map_set (F:=ZBW r tit p p2) (F':=ZBW r tit (p++[k]) p2) (ZHi _ _) hq fun z hz=>by rw[ZEU hk,if_neg (Ne.symm hz),List.append_nil]];rw[ZEU hk,if_pos rfl]
theorem ZNp {r tit:Str->Str}{p:List Str}{k:Str}(hk:ZBy k=false)(hq:r k ∉ ZCF r p):ZBu r tit (p++[k]) []=ZBu r tit p []++[([k],[],tit (r k))]:=by
 unfold ZBu;rw[ZEN hk,if_neg hq,List.map_append,List.map_cons,List.map_nil]
 congr 1
 ·apply List.map_congr_left
  intro z hz;rw[ZEU hk,if_neg (fun e:r k=z=>hq (by rw[e];exact hz)),List.append_nil]
 ·rw[ZEU hk,if_pos rfl]
  have:(ZBW r tit p [] (r k)).1=[]:=by
   unfold ZBW;simp only;rw[List.filter_eq_nil_iff];intro z hz e;exact hq (ZGz.2 (List.mem_map.2 ⟨z,hz,of_decide_eq_true e⟩))
  rw[this];rfl
theorem ZMA {r tit:Str->Str}{p1 p:List Str}{k:Str}(hk:ZBy k=true)(hq:r k∈ZCF r p1):ZBu r tit p1 (p++[k])=(ZBu r tit p1 p).set ((ZCF r p1).idxOf (r k)) ((ZBW r tit p1 p (r k)).1,(ZBW r tit p1 p (r k)).2.1++[k.drop 1],(ZBW r tit p1 p (r k)).2.2):=by
 unfold ZBu;rw[map_set (F:=ZBW r tit p1 p) (F':=ZBW r tit p1 (p++[k])) (ZHi _ _) hq fun z hz=>by rw[ZIO hk,if_neg (Ne.symm hz),List.append_nil]];rw[ZIO hk,if_pos rfl]
theorem ZKN {r tit:Str->Str}{p1 p2:List Str}{q:Str}(hq:q∈ZCF r p1):(ZBu r tit p1 p2)[(ZCF r p1).idxOf q]?=some (ZBW r tit p1 p2 q):=by
 unfold ZBu;rw[List.getElem?_map,List.getElem?_eq_getElem (List.idxOf_lt_length_of_mem hq),List.getElem_idxOf];rfl
def ZAU (s:List WkR):List Str:=mrgU ltB (nodW s)
def ZPE (s:List WkR):List WkO:=ZBu (repW s) (titB (repW s) (ofK [4] s)) (ZAU s) (ZAU s)
def pthQ (Q:List QE)(s:Str):List Str:=(ZCM Q (Q.length+1) s).reverse
def pthsQ (Q:List QE):List (List Str):=Q.map fun e=>pthQ Q e.1
abbrev ordW (l:List WkR):List WkR:=mrgU ltW l
theorem ZGn (l:List WkR):(ZAe (ordW l)).Pairwise ltW:=(ZCc ZAX l).filter _
section
variable {l:List WkR}{x:WkR}(hf:∀y∈l,y.key≠x.key)
include hf
end
section
variable {l o:List WkR}{a:List UInt8}(hl:∀y∈l,y.archive≠a)(ho:∀y∈o,y.archive=a)
include hl ho
end
def ZJb (t:Int)(k:Str)(st:Str×Int)(x:WkR):Str×Int:=if plcB t k x=true/\st.2<x.day then (x.b,x.day) else st
def whF (t:Int)(k:Str)(s:List WkR):Str×Int:=s.foldl (ZJb t k) ([],-1)
theorem ZMd (t:Int)(k:Str)(s:List WkR)(x:WkR):whF t k (s++[x])=ZJb t k (whF t k s) x:=by
 unfold whF;rw[List.foldl_append];rfl
def IsW (P:List WkR)(z:WkR):Prop:=z∈P/\∀y∈P,y.day<=z.day/\(y.day=z.day->y=z\/ltW z y)
theorem IsW.uniq {P:List WkR}{z w:WkR}(h1:IsW P z)(h2:IsW P w):z=w:=by
 have e:z.day=w.day:=by
  have a:=(h2.2 z h1.1).1;have b:=(h1.2 w h2.1).1;omega
 rcases (h2.2 z h1.1).2 e with q|q
 ·exact q
 ·rcases (h1.2 w h2.1).2 e.symm with q2|q2
  ·exact q2.symm
  ·exact absurd (ZAX.tr q q2) (ZAX.irr _)
theorem ZTg {t:Int}{k:Str}{s:List WkR}(hs:s.Pairwise ltW)(hd:∀x∈s,0<=x.day):(s.filter (plcB t k)=[]/\whF t k s=([],-1))\/∃z,IsW (s.filter (plcB t k)) z/\whF t k s=(z.b,z.day):=by
 induction s using ZET with
 | h0=>exact .inl ⟨rfl,rfl⟩
 | h1 s x ih =>
  rw[List.pairwise_append] at hs;obtain⟨hs1,-,hs3⟩:=hs;have hlt:∀y∈s,ltW y x:=fun y hy=>hs3 y hy x (by simp);have hx0:0<=x.day:=hd x (by simp);rw[ZMd,ZM2];unfold ZJb
  by_cases hp:plcB t k x=true
  ·rw[if_pos hp]
   rcases ih hs1 (fun y hy=>hd y (List.mem_append_left _ hy)) with ⟨h1,h2⟩|⟨z,h1,h2⟩
   ·rw[h1,h2,if_pos ⟨hp,by show (-1:Int)<x.day;omega⟩]
    refine .inr ⟨x,⟨by simp,fun y hy=>?_⟩,rfl⟩;rw[List.nil_append,List.mem_singleton] at hy;rw[hy];exact⟨Int.le_refl _,fun _=>.inl rfl⟩
   ·rw[h2]
    by_cases hq:z.day<x.day
    ·rw[if_pos ⟨hp,hq⟩]
     refine .inr ⟨x,⟨by simp,fun y hy=>?_⟩,rfl⟩
     rcases List.mem_append.1 hy with hy|hy
     ·have:=(h1.2 y hy).1
      exact⟨by omega,fun e=>by omega⟩
     ·rw[List.mem_singleton.1 hy]
      exact⟨Int.le_refl _,fun _=>.inl rfl⟩
    ·rw[if_neg fun q=>hq q.2]
     refine .inr ⟨z,⟨List.mem_append_left _ h1.1,fun y hy=>?_⟩,rfl⟩
     rcases List.mem_append.1 hy with hy|hy
     ·exact h1.2 y hy
     ·rw[List.mem_singleton.1 hy]
      exact⟨by omega,fun _=>.inr (hlt z (List.mem_filter.1 h1.1).1)⟩
  ·rw[if_neg hp,List.append_nil,if_neg fun q=>hp q.1]
   exact ih hs1 fun y hy=>hd y (List.mem_append_left _ hy)
theorem ZQh {P:List WkR}:(P=[]/\ZI7 (mrgU ltD P)=[])\/∃z,IsW P z/\ZI7 (mrgU ltD P)=z.b:=by
 have hup:=ZCc ZA5 P;have hm:∀y,y∈mrgU ltD P ↔ y∈P:=fun y=>ZBK ZA5;unfold ZI7
 cases hg:(mrgU ltD P).getLast? with
 | none =>
  rw[List.getLast?_eq_none_iff] at hg;refine .inl ⟨?_,rfl⟩
  cases P with
  | nil=>rfl
  | cons y P=>exact absurd ((hm y).2 List.mem_cons_self) (by rw[hg];exact List.not_mem_nil)
 | some w =>
  refine .inr ?_;obtain⟨r,hr⟩:=List.getLast?_eq_some_iff.1 hg;have hw:w∈mrgU ltD P:=by rw[hr];simp
  have hle:∀y∈mrgU ltD P,y.day<=w.day:=fun y hy=>by
   rw[hr] at hy hup
   rcases List.mem_append.1 hy with hy|hy
   ·rcases ZFj.1 ((List.pairwise_append.1 hup).2.2 y hy w (by simp)) with q|⟨q,-⟩
    ·omega
    ·omega
   ·rw[List.mem_singleton.1 hy]
    exact Int.le_refl _
  cases hf:(mrgU ltD P).find? fun x=>decide (x.day=w.day) with
  | none=>exact absurd (List.find?_eq_none.1 hf w hw) (by simp)
  | some z =>
   obtain⟨hz,A,B,e,hA⟩:=List.find?_eq_some_iff_append.1 hf;have hzd:z.day=w.day:=by simpa using hz
   refine⟨z,⟨(hm z).1 (List.mem_of_find?_eq_some hf),fun y hy=>?_⟩,(by show (((mrgU ltD P).find? fun x=>decide (x.day=w.day)).map WkR.b).getD []=z.b;rw[hf];rfl)⟩;have hy':=(hm y).2 hy;refine⟨by rw[hzd];exact hle y hy',fun ey=>?_⟩;rw[e] at hy' hup
   rcases List.mem_append.1 hy' with hy'|hy'
   ·have:=hA y hy'
    simp at this;omega
   ·rcases List.mem_cons.1 hy' with rfl|hy'
    ·exact .inl rfl
    ·have h3:=(List.pairwise_cons.1 (List.pairwise_append.1 hup).2.1).1 y hy'
     rcases ZFj.1 h3 with q|⟨-,q⟩
     ·omega
     ·exact .inr q
theorem ZO4 {t:Int}{k:Str}{s:List WkR}(hs:s.Pairwise ltW)(hd:∀x∈s,0<=x.day):(whF t k s).1=ZBR s t k:=by
 have e:plcW s t k=s.filter (plcB t k):=by
  unfold plcW ofK;rw[List.filter_filter];refine List.filter_congr fun x _=>?_;unfold plcB
  by_cases h:x.kind=5 <;> simp[h]
 unfold ZBR ZBB;rw[e]
 rcases ZTg (t:=t) (k:=k) hs hd with ⟨h1,h2⟩|⟨z,h1,h2⟩
 ·rw[h2,h1];rfl
 ·rw[h2]
  rcases ZQh (P:=s.filter (plcB t k)) with ⟨q1,-⟩|⟨w,q1,q2⟩
  ·rw[q1] at h1;exact absurd h1.1 List.not_mem_nil
  ·rw[q2,h1.uniq q1]
abbrev Twc:=Str×Int×Key×Key
def ltTw:Twc->Twc->Prop:=lexP ltB (lexP ltI (lexP (lexP ltB ltI) (lexP ltB ltI)))
theorem ZDY:ZBN ltTw:=ZAz ZAJ (ZAz ZBD (ZAz (ZAz ZAJ ZBD) (ZAz ZAJ ZBD)))
abbrev TwSt:=Nat×Bool×List Twc
def recZ:WkR:=⟨[],0,0,0,[],[]⟩
def ZGS (k:Str)(l:List WkR)(st:TwSt)(i:Nat):TwSt :=
 let x:=l.getD i recZ
 let b:=if x.day≠(l.getD st.1 recZ).day then i else st.1
 let t:=if x.day≠(l.getD st.1 recZ).day then false else st.2.1
 if t=false/\x.b≠(l.getD b recZ).b then (b,true,st.2.2++[(k,x.day,(l.getD b recZ).key,x.key)]) else (b,t,st.2.2)
def twF (k:Str)(l:List WkR):Nat->TwSt
 | 0=>(0,false,[])
 | i+1=>ZGS k l (twF k l i) i
def twO (k:Str)(l:List WkR):List Twc:=(twF k l l.length).2.2
structure ZTv (k:Str)(l:List WkR)(i:Nat)(st:TwSt):Prop where
 bl:0<i->st.1<i
 b0:i=0->st=(0,false,[])
 cur:0<i->(l.getD st.1 recZ).day=(l.getD (i-1) recZ).day
 item:∀z∈st.2.2,z.1=k/\∃y∈l,y.day=z.2.1
 pw:st.2.2.Pairwise fun z z'=>z.2.1<z'.2.1
 le:∀z∈st.2.2,z.2.1<=(l.getD st.1 recZ).day
 lt:st.2.1=false->∀z∈st.2.2,z.2.1<(l.getD st.1 recZ).day
theorem ZLT {k:Str}{l:List WkR}(hl:l.Pairwise fun x y=>x.day<=y.day):∀i,i<=l.length->ZTv k l i (twF k l i)
 | 0,_=>⟨fun h=>absurd h (Nat.lt_irrefl _),fun _=>rfl,fun h=>absurd h (Nat.lt_irrefl _),(fun _ h=>nomatch h),.nil,(fun _ h=>nomatch h),fun _ _ h=>nomatch h⟩
 | i+1,hi=>by
  have ih:=ZLT (k:=k) (l:=l) hl i (by omega);rw[twF];generalize twF k l i=st at ih;have hxi:l.getD i recZ=l[i]:=by rw[List.getD_eq_getElem?_getD,List.getElem?_eq_getElem (by omega)];rfl
  have hxm:l.getD i recZ∈l:=by rw[hxi];exact List.getElem_mem _
  have hge:0<i->(l.getD st.1 recZ).day<=(l.getD i recZ).day:=fun h0=>by
   rw[ih.cur h0,hxi,List.getD_eq_getElem?_getD,List.getElem?_eq_getElem (show i-1<l.length by omega)];exact List.pairwise_iff_getElem.1 hl (i-1) i (by omega) (by omega) (by omega)
  have hz:i=0->st=(0,false,[]):=ih.b0;unfold ZGS;generalize hx:l.getD i recZ=x at *;simp only
  by_cases hd:x.day≠(l.getD st.1 recZ).day
  ·simp only[if_pos hd,hx]
   rw[if_neg (fun q=>q.2 rfl)]
   have hlt:∀z∈st.2.2,z.2.1<x.day:=fun z hz'=>by
    rcases Nat.eq_zero_or_pos i with h0|h0
    ·rw[hz h0] at hz';cases hz'
    ·have h1:=ih.le z hz'
     have h2:=hge h0;omega
   exact⟨fun _=>Nat.lt_succ_self i,fun h=>absurd h (Nat.succ_ne_zero i),fun _=>by simp[hx],ih.item,ih.pw,fun z hz'=>by simp only[hx];exact Int.le_of_lt (hlt z hz'),fun _ z hz'=>by simp only[hx];exact hlt z hz'⟩
  ·have he:x.day=(l.getD st.1 recZ).day:=Decidable.not_not.1 hd
   simp only[if_neg hd];have hb:st.1<i+1:=by
    rcases Nat.eq_zero_or_pos i with h0|h0
    ·rw[hz h0];exact Nat.succ_pos _
    ·have:=ih.bl h0;omega
   split
   ·rename_i hc
    refine⟨fun _=>hb,fun h=>absurd h (Nat.succ_ne_zero i),fun _=>by show (l.getD st.1 recZ).day=(l.getD i recZ).day;rw[hx,he],fun z hz'=>?_,?_,fun z hz'=>?_,fun h=>by cases h⟩
    ·rcases List.mem_append.1 hz' with q|q
     ·exact ih.item z q
     ·rw[List.mem_singleton.1 q];exact⟨rfl,x,hxm,rfl⟩
    ·rw[List.pairwise_append]
     refine⟨ih.pw,by simp,fun z hz1 z' hz2=>?_⟩;rw[List.mem_singleton.1 hz2]
     show z.2.1<x.day
     rw[he];exact ih.lt hc.1 z hz1
    ·rcases List.mem_append.1 hz' with q|q
     ·exact ih.le z q
     ·rw[List.mem_singleton.1 q];exact Int.le_of_eq he
   ·exact⟨fun _=>hb,fun h=>absurd h (Nat.succ_ne_zero i),fun _=>by show (l.getD st.1 recZ).day=(l.getD i recZ).day;rw[hx,he],ih.item,ih.pw,ih.le,ih.lt⟩
def twL (s:List WkR)(V:List Str):List Twc:=V.flatMap fun k=>twO k (ZBB s 80000 k)
def twcS (s:List WkR):List Twc:=twL s (mrgU ltB (itmW s))
theorem ZNE {s:List WkR}{t:Int}{k:Str}:(ZBB s t k).Pairwise fun x y=>x.day<=y.day :=
 (ZCc ZA5 _).imp fun {x y} h=>by
  rcases ZFj.1 h with q|⟨q,-⟩
  ·exact Int.le_of_lt q
  ·exact Int.le_of_eq q
theorem ZCk (s:List WkR)(k:Str):(∀z∈twO k (ZBB s 80000 k),z.1=k/\∃y∈s,y.day=z.2.1)/\(twO k (ZBB s 80000 k)).Pairwise fun z z'=>z.2.1<z'.2.1:=by
 have h:=ZLT (k:=k) (ZNE (s:=s) (t:=80000) (k:=k)) _ (Nat.le_refl _);refine⟨fun z hz=>?_,h.pw⟩;obtain⟨h1,y,hy,h2⟩:=h.item z hz;refine⟨h1,y,?_,h2⟩;unfold ZBB at hy;rw[ZBK ZA5] at hy;exact (ZDd.1 (List.mem_filter.1 hy).1).1
theorem ZR3 {α:Type}{f:α->Int}:∀{l:List α},(l.Pairwise fun a b=>f a<f b)->∀x∈l,∀y∈l,f x=f y->x=y
 | [],_,_,h,_,_,_=>nomatch h
 | a::l,hp,x,hx,y,hy,e=>by
  rw[List.pairwise_cons] at hp
  rcases List.mem_cons.1 hx with hx'|hx'
  ·rcases List.mem_cons.1 hy with hy'|hy'
   ·rw[hx',hy']
   ·have:=hp.1 y hy';rw[hx'] at e;omega
  ·rcases List.mem_cons.1 hy with hy'|hy'
   ·have:=hp.1 x hx';rw[hy'] at e;omega
   ·exact ZR3 hp.2 x hx' y hy' e
theorem ZR0 (s:List WkR):(twcS s).Pairwise ltTw:=by
 unfold twcS twL;rw[List.pairwise_flatMap];refine⟨fun k _=>?_,(ZCc ZAJ _).imp fun {a b} hab x hx y hy=>?_⟩
 ·obtain⟨h1,h2⟩:=ZCk s k
  exact List.Pairwise.imp_of_mem (fun {a b} ha hb hab=>.inr ⟨(h1 a ha).1.trans (h1 b hb).1.symm,.inl hab⟩) h2
 ·refine .inl ?_
  rw[((ZCk s a).1 x hx).1,((ZCk s b).1 y hy).1];exact hab
theorem ZOb {s:List WkR}{V:List Str}(hV:∀k,k∈V ↔ k∈itmW s)(e:Twc):e∈twcS s ↔ e∈twL s V:=by
 unfold twcS twL;simp only[List.mem_flatMap,ZBK ZAJ,hV]
theorem ZTr {s:List WkR}{V:List Str}(hV:V.Nodup):(twL s V).Nodup:=by
 unfold twL;rw[List.Nodup,List.pairwise_flatMap];refine⟨fun k _=>(ZCk s k).2.imp fun {a b} h e=>by rw[e] at h;omega,hV.imp fun {a b} hab x hx y hy e=>hab ?_⟩;rw[<-((ZCk s a).1 x hx).1,e,((ZCk s b).1 y hy).1]
theorem ZTX {s:List WkR}{V:List Str}:∀x∈twL s V,∀y∈twL s V,x.1=y.1->x.2.1=y.2.1->x=y:=fun x hx y hy e1 e2=>by
 obtain⟨a,-,hxa⟩:=List.mem_flatMap.1 hx;obtain⟨b,-,hyb⟩:=List.mem_flatMap.1 hy;have e:a=b:=by rw[<-((ZCk s a).1 x hxa).1,e1,((ZCk s b).1 y hyb).1]
 subst e;exact ZR3 (f:=fun z:Twc=>z.2.1) (ZCk s a).2 x hxa y hyb e2
theorem ZSH {s:List WkR}{V:List Str}(hd:∀x∈s,0<=x.day/\x.day<=80000):∀z∈twL s V,0<=z.2.1/\z.2.1<=80000:=fun z hz=>by
 obtain⟨a,-,hza⟩:=List.mem_flatMap.1 hz;obtain⟨-,y,hy,e⟩:=(ZCk s a).1 z hza;rw[<-e];exact hd y hy
theorem ZO1 {α β:Type}{f:α->List β}{B:Nat}:∀{L:List α},(∀x∈L,(f x).length<=B)->(L.flatMap f).length<=L.length*B
 | [],_=>Nat.zero_le _
 | x::L,h=>by
  rw[List.flatMap_cons,List.length_append,List.length_cons,Nat.succ_mul];have h1:=h x List.mem_cons_self;have h2:=ZO1 (L:=L) fun y hy=>h y (List.mem_cons_of_mem _ hy);omega
section
variable {k:Str}{l:List WkR}{i b:Nat}{t:Bool}{o:List Twc}
theorem ZTU (h:twF k l i=(b,t,o))(hd:(l.getD i recZ).day≠(l.getD b recZ).day):twF k l (i+1)=(i,false,o):=by
 rw[twF,h];unfold ZGS;simp only[if_pos hd];rw[if_neg (fun q=>q.2 rfl)]
theorem ZSw (h:twF k l i=(b,true,o))(hd:¬(l.getD i recZ).day≠(l.getD b recZ).day):twF k l (i+1)=(b,true,o):=by
 rw[twF,h];unfold ZGS;simp only[if_neg hd];rw[if_neg (fun q=>by cases q.1)]
theorem ZSV (h:twF k l i=(b,false,o))(hd:¬(l.getD i recZ).day≠(l.getD b recZ).day)(hb:¬(l.getD i recZ).b≠(l.getD b recZ).b):twF k l (i+1)=(b,false,o):=by
 rw[twF,h];unfold ZGS;simp only[if_neg hd];rw[if_neg (fun q=>hb q.2)]
theorem ZTb (h:twF k l i=(b,false,o))(hd:¬(l.getD i recZ).day≠(l.getD b recZ).day)(hb:(l.getD i recZ).b≠(l.getD b recZ).b):twF k l (i+1)=(b,true,o++[(k,(l.getD i recZ).day,(l.getD b recZ).key,(l.getD i recZ).key)]):=by
 rw[twF,h];unfold ZGS;simp only[if_neg hd];rw[if_pos ⟨trivial,hb⟩]
end
theorem ZI9 (k:Str)(l:List WkR):∀i,(twF k l i).2.2.length<=i
 | 0=>Nat.le_refl _
 | i+1=>by
  have:=ZI9 k l i;rw[twF];unfold ZGS;simp only
  repeat' split
  all_goals try simp only[List.length_append,List.length_cons,List.length_nil]
  all_goals omega
def FoW (k:Str)(P:List WkR)(z:Twc):Prop:=∃f o,f∈P/\o∈P/\z=(k,f.day,f.key,o.key)/\o.day=f.day/\o.b≠f.b/\(∀y∈P,y.day=f.day->y=f\/ltW f y)/\∀y∈P,y.day=f.day->y.b≠f.b->y=o\/ltW o y
theorem FoW.same {k:Str}{P Q:List WkR}(h:∀y,y∈P ↔ y∈Q){z:Twc}:FoW k P z ↔ FoW k Q z:=by
 unfold FoW;simp only[h]
structure TwJ (k:Str)(l:List WkR)(i:Nat)(st:TwSt):Prop where
 mem:∀z,z∈st.2.2 ↔ FoW k (l.take i) z
 z0:i=0->st=(0,false,[])
 base:0<i->l.getD st.1 recZ∈l.take i/\(∀y∈l.take i,y.day<=(l.getD st.1 recZ).day)/\∀y∈l.take i,y.day=(l.getD st.1 recZ).day->y=l.getD st.1 recZ\/ltW (l.getD st.1 recZ) y
 no:st.2.1=false->∀y∈l.take i,y.day=(l.getD st.1 recZ).day->y.b=(l.getD st.1 recZ).b
 yes:st.2.1=true->∃y∈l.take i,y.day=(l.getD st.1 recZ).day/\y.b≠(l.getD st.1 recZ).b
theorem ZTl {k:Str}{l:List WkR}(hl:l.Pairwise ltD):∀i,i<=l.length->TwJ k l i (twF k l i)
 | 0,_=>⟨fun z=>⟨(fun h=>nomatch h),fun ⟨f,_,hf,_⟩=>by simp at hf⟩,fun _=>rfl,fun h=>absurd h (Nat.lt_irrefl _),(fun _ y hy=>by simp at hy),fun h=>by cases h⟩
 | i+1,hi=>by
  have ih:=ZTl (k:=k) hl i (by omega);have hxi:l.getD i recZ=l[i]:=by rw[List.getD_eq_getElem?_getD,List.getElem?_eq_getElem (by omega)];rfl
  have htk:l.take (i+1)=l.take i++[l.getD i recZ]:=by rw[List.take_add_one,List.getElem?_eq_getElem (by omega),hxi];rfl
  have hlt:∀y∈l.take i,ltD y (l.getD i recZ):=fun y hy=>by
   obtain⟨j,hj,rfl⟩:=List.getElem_of_mem hy;rw[List.length_take] at hj;rw[List.getElem_take,hxi];exact List.pairwise_iff_getElem.1 hl j i (by omega) (by omega) (by omega)
  have hne:∀y∈l.take i,y≠l.getD i recZ:=fun y hy e=>ZA5.irr _ (by have:=hlt y hy;rw[e] at this;exact this);have hl0:l.take 0=[]:=List.take_zero;rw[twF];generalize twF k l i=st at ih ⊢;obtain⟨b,t,out⟩:=st;obtain⟨hm,hz,hb,hno,hyes⟩:=ih;simp only at hm hz hb hno hyes;unfold ZGS;simp only
  rcases Nat.eq_zero_or_pos i with h0|h0
  ·subst h0
   cases hz rfl;simp only[ne_eq,not_true_eq_false,and_false,↓reduceIte];rw[hl0,List.nil_append] at htk;refine⟨fun z=>⟨(fun h=>nomatch h),fun ⟨f,o,hf,ho,_,_,h6,_⟩=>?_⟩,fun h=>absurd h (Nat.succ_ne_zero 0),fun _=>?_,fun _ y hy _=>?_,fun h=>by cases h⟩
   ·rw[htk,List.mem_singleton] at hf ho
    rw[hf,ho] at h6;exact absurd rfl h6
   ·rw[htk]
    refine⟨by simp,fun y hy=>?_,fun y hy _=>?_⟩
    ·rw[List.mem_singleton.1 hy];exact Int.le_refl _
    ·exact .inl (List.mem_singleton.1 hy)
   ·rw[htk,List.mem_singleton] at hy
    rw[hy]
  obtain⟨hb1,hb2,hb3⟩:=hb h0;generalize hf:l.getD b recZ=f at *;generalize hx:l.getD i recZ=x at *
  by_cases hd:x.day≠f.day
  ·rw[if_pos hd,if_pos hd,hx,if_neg (fun q=>q.2 rfl)]
   have hgt:∀y∈l.take i,y.day<x.day:=fun y hy=>by
    have h1:=hb2 y hy;have h2:f.day<=x.day:=by
     rcases ZFj.1 (hlt f hb1) with q|⟨q,-⟩
     ·omega
     ·omega
    omega
   refine⟨fun z=>?_,fun h=>absurd h (Nat.succ_ne_zero i),fun _=>?_,fun _ y hy hyd=>?_,fun h=>by cases h⟩
   ·rw[htk]
    show z∈out ↔ _
    rw[hm]
    constructor
    ·rintro⟨f',o',h1,h2,h3,h4,h5,h6,h7⟩
     have hfx:x.day≠f'.day:=fun e=>by have:=hgt f' h1;omega
     refine⟨f',o',List.mem_append_left _ h1,List.mem_append_left _ h2,h3,h4,h5,fun y hy hyd=>?_,fun y hy hyd=>?_⟩
     ·rcases List.mem_append.1 hy with hy|hy
      ·exact h6 y hy hyd
      ·rw[List.mem_singleton.1 hy] at hyd;exact absurd hyd hfx
     ·rcases List.mem_append.1 hy with hy|hy
      ·exact h7 y hy hyd
      ·rw[List.mem_singleton.1 hy] at hyd;exact absurd hyd hfx
    ·rintro⟨f',o',h1,h2,h3,h4,h5,h6,h7⟩
     have hfq:f'∈l.take i:=by
      rcases List.mem_append.1 h1 with q|q
      ·exact q
      ·rw[List.mem_singleton] at q
       rcases List.mem_append.1 h2 with r|r
       ·have:=hgt o' r;rw[h4,q] at this;omega
       ·rw[List.mem_singleton] at r
        rw[q,r] at h5;exact absurd rfl h5
     have hoq:o'∈l.take i:=by
      rcases List.mem_append.1 h2 with r|r
      ·exact r
      ·rw[List.mem_singleton] at r
       have:=hgt f' hfq;rw[r] at h4;omega
     exact⟨f',o',hfq,hoq,h3,h4,h5,fun y hy=>h6 y (List.mem_append_left _ hy),fun y hy=>h7 y (List.mem_append_left _ hy)⟩
   ·show l.getD i recZ∈_/\_
    rw[hx,htk];refine⟨by simp,fun y hy=>?_,fun y hy hyd=>?_⟩
    ·rcases List.mem_append.1 hy with hy|hy
     ·have:=hgt y hy;omega
     ·rw[List.mem_singleton.1 hy];exact Int.le_refl _
    ·rcases List.mem_append.1 hy with hy|hy
     ·have:=hgt y hy;omega
     ·exact .inl (List.mem_singleton.1 hy)
   ·rw[htk] at hy
    have hyd':y.day=x.day:=by rw[<-hx];exact hyd
    show y.b=(l.getD i recZ).b
    rw[hx]
    rcases List.mem_append.1 hy with hy|hy
    ·have:=hgt y hy;omega
    ·rw[List.mem_singleton.1 hy]
  have he:x.day=f.day:=Decidable.not_not.1 hd
  have hyx:∀y∈l.take i,y.day=f.day->ltW y x:=fun y hy hyd=>by
   rcases ZFj.1 (hlt y hy) with q|⟨-,q⟩
   ·omega
   ·exact q
  have hfirst:∀f',f'∈l.take i++[x]->f'.day=x.day->(∀y∈l.take i++[x],y.day=f'.day->y=f'\/ltW f' y)->f'=f:=fun f' h1 h2 h3=>by
   rcases h3 f (List.mem_append_left _ hb1) (by omega) with q|q
   ·exact q.symm
   ·rcases List.mem_append.1 h1 with r|r
    ·rcases hb3 f' r (by omega) with r2|r2
     ·exact r2
     ·exact absurd (ZAX.tr q r2) (ZAX.irr _)
    ·rw[List.mem_singleton.1 r] at q
     exact absurd (ZAX.tr q (hyx f hb1 rfl)) (ZAX.irr _)
  have hbase:∀y∈l.take i++[x],y.day=f.day->y=f\/ltW f y:=fun y hy hyd=>by
   rcases List.mem_append.1 hy with hy|hy
   ·exact hb3 y hy hyd
   ·rw[List.mem_singleton.1 hy];exact .inr (hyx f hb1 rfl)
  have hB:f∈l.take (i+1)/\(∀y∈l.take (i+1),y.day<=f.day)/\∀y∈l.take (i+1),y.day=f.day->y=f\/ltW f y:=by
   rw[htk];refine⟨List.mem_append_left _ hb1,fun y hy=>?_,hbase⟩
   rcases List.mem_append.1 hy with hy|hy
   ·exact hb2 y hy
   ·rw[List.mem_singleton.1 hy];omega
  have hkeep:∀z f' o',f'∈l.take i->o'∈l.take i->z=(k,f'.day,f'.key,o'.key)->o'.day=f'.day->o'.b≠f'.b->(∀y∈l.take i,y.day=f'.day->y=f'\/ltW f' y)->(∀y∈l.take i,y.day=f'.day->y.b≠f'.b->y=o'\/ltW o' y)->FoW k (l.take i++[x]) z:=fun z f' o' h1 h2 h3 h4 h5 h6 h7=>by
   refine⟨f',o',List.mem_append_left _ h1,List.mem_append_left _ h2,h3,h4,h5,fun y hy hyd=>?_,fun y hy hyd hyb=>?_⟩
   ·rcases List.mem_append.1 hy with hy|hy
    ·exact h6 y hy hyd
    ·rw[List.mem_singleton.1 hy] at hyd ⊢
     exact .inr (hyx f' h1 (by omega))
   ·rcases List.mem_append.1 hy with hy|hy
    ·exact h7 y hy hyd hyb
    ·rw[List.mem_singleton.1 hy] at hyd ⊢
     exact .inr (hyx o' h2 (by omega))
  have hdown:∀z f' o',f'∈l.take i->o'∈l.take i->z=(k,f'.day,f'.key,o'.key)->o'.day=f'.day->o'.b≠f'.b->(∀y∈l.take i++[x],y.day=f'.day->y=f'\/ltW f' y)->(∀y∈l.take i++[x],y.day=f'.day->y.b≠f'.b->y=o'\/ltW o' y)->FoW k (l.take i) z:=fun z f' o' h1 h2 h3 h4 h5 h6 h7 =>
   ⟨f',o',h1,h2,h3,h4,h5,fun y hy=>h6 y (List.mem_append_left _ hy),fun y hy=>h7 y (List.mem_append_left _ hy)⟩
  have hside:∀f' o',f'∈l.take i++[x]->o'∈l.take i++[x]->o'.day=f'.day->f'.day≠x.day->f'∈l.take i/\o'∈l.take i:=fun f' o' h1 h2 h4 hn=>by
   constructor
   ·rcases List.mem_append.1 h1 with q|q
    ·exact q
    ·rw[List.mem_singleton.1 q] at hn;exact absurd rfl hn
   ·rcases List.mem_append.1 h2 with q|q
    ·exact q
    ·rw[List.mem_singleton.1 q] at h4;exact absurd h4.symm hn
  rw[if_neg hd,if_neg hd,hf]
  split
  ·rename_i hc
   obtain⟨ht,hxb⟩:=hc;have hno':=hno ht;refine⟨fun z=>?_,fun h=>absurd h (Nat.succ_ne_zero i),fun _=>by show l.getD b recZ∈_/\_;rw[hf];exact hB,fun h=>(by cases h),fun _=>?_⟩
   ·rw[htk]
    show z∈out++[(k,x.day,f.key,x.key)] ↔ _
    rw[List.mem_append,hm,List.mem_singleton]
    constructor
    ·rintro (⟨f',o',h1,h2,h3,h4,h5,h6,h7⟩|rfl)
     ·exact hkeep z f' o' h1 h2 h3 h4 h5 h6 h7
     ·refine⟨f,x,List.mem_append_left _ hb1,by simp,by rw[he],he,hxb,hbase,fun y hy hyd hyb=>?_⟩
      rcases List.mem_append.1 hy with hy|hy
      ·exact absurd (hno' y hy hyd) hyb
      ·exact .inl (List.mem_singleton.1 hy)
    ·rintro⟨f',o',h1,h2,h3,h4,h5,h6,h7⟩
     by_cases hfd:f'.day=x.day
     ·have e:=hfirst f' h1 hfd h6
      subst e
      rcases List.mem_append.1 h2 with q|q
      ·exact absurd (hno' o' q h4) h5
      ·rw[List.mem_singleton.1 q] at h3
       rw[he];exact .inr h3
     ·obtain⟨g1,g2⟩:=hside f' o' h1 h2 h4 hfd
      exact .inl (hdown z f' o' g1 g2 h3 h4 h5 h6 h7)
   ·show ∃y∈l.take (i+1),y.day=(l.getD b recZ).day/\y.b≠(l.getD b recZ).b
    rw[hf,htk];exact⟨x,by simp,he,hxb⟩
  ·rename_i hc
   refine⟨fun z=>?_,fun h=>absurd h (Nat.succ_ne_zero i),fun _=>by show l.getD b recZ∈_/\_;rw[hf];exact hB,fun ht y hy hyd=>?_,fun ht=>?_⟩
   ·rw[htk]
    show z∈out ↔ _
    rw[hm]
    constructor
    ·rintro⟨f',o',h1,h2,h3,h4,h5,h6,h7⟩
     exact hkeep z f' o' h1 h2 h3 h4 h5 h6 h7
    ·rintro⟨f',o',h1,h2,h3,h4,h5,h6,h7⟩
     by_cases hfd:f'.day=x.day
     ·have e:=hfirst f' h1 hfd h6
      subst e
      rcases List.mem_append.1 h2 with q|q
      ·exact hdown z f' o' hb1 q h3 h4 h5 h6 h7
      ·rw[List.mem_singleton] at q
       subst q;have htt:t=true:=by
        cases t with
        | true=>rfl
        | false=>exact absurd ⟨rfl,h5⟩ hc
       obtain⟨y,hy,hyd,hyb⟩:=hyes htt
       rcases h7 y (List.mem_append_left _ hy) hyd hyb with r|r
       ·exact absurd r (hne y hy)
       ·exact absurd (ZAX.tr r (hyx y hy hyd)) (ZAX.irr _)
     ·obtain⟨g1,g2⟩:=hside f' o' h1 h2 h4 hfd
      exact hdown z f' o' g1 g2 h3 h4 h5 h6 h7
   ·have ht':t=false:=ht
    have hyd':y.day=f.day:=by rw[<-hf];exact hyd
    show y.b=(l.getD b recZ).b
    rw[hf];rw[htk] at hy
    rcases List.mem_append.1 hy with hy|hy
    ·exact hno ht' y hy hyd'
    ·rw[List.mem_singleton.1 hy]
     exact Decidable.byContradiction fun q=>hc ⟨ht',q⟩
   ·have ht':t=true:=ht
    obtain⟨y,hy,hyd,hyb⟩:=hyes ht'
    show ∃y∈l.take (i+1),y.day=(l.getD b recZ).day/\y.b≠(l.getD b recZ).b
    rw[hf,htk];exact⟨y,List.mem_append_left _ hy,hyd,hyb⟩
theorem ZQH {k:Str}{s:List WkR}{t:Int}{z:Twc}:z∈twO k (ZBB s t k) ↔ FoW k (plcW s t k) z:=by
 have h:=(ZTl (k:=k) (l:=ZBB s t k) (ZCc ZA5 _) _ (Nat.le_refl _)).mem z;rw[List.take_length] at h;unfold twO;rw[h];exact FoW.same fun y=>ZBK ZA5
theorem ZTm {k:Str}{s:List WkR}{C:List Twc}(hp:C.Pairwise fun z z'=>z.2.1<z'.2.1)(hm:∀z,z∈C ↔ FoW k (plcW s 80000 k) z):C=twO k (ZBB s 80000 k):=by
 have hk:∀z∈C,z.1=k:=fun z hz=>by
  obtain⟨f,o,-,-,e,-⟩:=(hm z).1 hz;rw[e]
 have hup:C.Pairwise ltTw:=List.Pairwise.imp_of_mem (fun {a b} ha hb hab=>.inr ⟨(hk a ha).trans (hk b hb).symm,.inl hab⟩) hp;obtain⟨h1,h2⟩:=ZCk s k;have hup2:(twO k (ZBB s 80000 k)).Pairwise ltTw:=List.Pairwise.imp_of_mem (fun {a b} ha hb hab=>.inr ⟨(h1 a ha).1.trans (h1 b hb).1.symm,.inl hab⟩) h2
 haveI:DecidableRel ltTw:=fun a b=>Classical.propDecidable _
 have e1:=ZE0 ZDY hup (l:=C) fun z=>Iff.rfl;have e2:=ZE0 ZDY hup2 (l:=C) fun z=>by rw[ZQH,hm]
 rw[e1,<-e2]
def qB (k:Str)(d:Int)(x:WkR):Bool:=decide (x.kind=5/\x.a=k/\d<=x.day)
def NJ (S:List WkR)(k:Str)(d:Int)(n:Nat)(st:Int×Int×Int):Prop :=
 ((S.take n).filter (qB k d)=[]/\st=(80001,-1,-1)) ∨
 ∃(jf:Nat) (f:WkR),st.2.1=(jf:Nat)/\S[jf]?=some f/\f∈(S.take n).filter (qB k d)/\st.1=f.day/\(∀y∈(S.take n).filter (qB k d),f.day<=y.day/\(y.day=f.day->y=f\/ltW f y)) ∧
  ((st.2.2 = -1/\∀y∈(S.take n).filter (qB k d),y.day=f.day->y.b=f.b) ∨
   ∃(jo:Nat) (o:WkR),st.2.2=(jo:Nat)/\S[jo]?=some o/\o∈(S.take n).filter (qB k d)/\o.day=f.day/\o.b≠f.b/\∀y∈(S.take n).filter (qB k d),y.day=f.day->y.b≠f.b->y=o\/ltW o y)
theorem NJ.zero (S:List WkR)(k:Str)(d:Int):NJ S k d 0 (80001,-1,-1):=.inl ⟨by simp,rfl⟩
section
variable {S:List WkR}{k:Str}{d:Int}{n:Nat}{st:Int×Int×Int}
theorem ZI3 (hn:n<S.length):(S.take (n+1)).filter (qB k d)=(S.take n).filter (qB k d)++if qB k d S[n]=true then [S[n]] else []:=by
 rw[List.take_add_one,List.getElem?_eq_getElem hn,Option.toList_some,List.filter_append]
 congr 1
 by_cases q:qB k d S[n]=true
 ·rw[if_pos q,List.filter_cons_of_pos q];rfl
 ·rw[if_neg q,List.filter_cons_of_neg q];rfl
theorem ZLM (hS:S.Pairwise ltW)(hn:n<S.length){y:WkR}(hy:y∈(S.take n).filter (qB k d)):ltW y S[n]:=by
 obtain⟨j,hj,rfl⟩:=List.getElem_of_mem (List.mem_filter.1 hy).1;rw[List.length_take] at hj;rw[List.getElem_take];exact List.pairwise_iff_getElem.1 hS j n (by omega) hn (by omega)
theorem NJ.skip (h:NJ S k d n st)(hn:n<S.length)(hq:¬qB k d S[n]=true):NJ S k d (n+1) st:=by
 unfold NJ at h ⊢;rw[ZI3 hn,if_neg hq,List.append_nil];exact h
theorem NJ.less (h:NJ S k d n st)(hn:n<S.length)(hq:qB k d S[n]=true)(hl:S[n].day<st.1):NJ S k d (n+1) (S[n].day,(n:Nat),-1):=by
 unfold NJ at h ⊢;rw[ZI3 hn,if_pos hq]
 have hgt:∀y∈(S.take n).filter (qB k d),S[n].day<y.day:=fun y hy=>by
  rcases h with ⟨h1,-⟩|⟨jf,f,-,-,-,h5,h6,-⟩
  ·rw[h1] at hy;exact absurd hy List.not_mem_nil
  ·have:=(h6 y hy).1;omega
 refine .inr ⟨n,S[n],rfl,List.getElem?_eq_getElem hn,by simp,rfl,fun y hy=>?_,.inl ⟨rfl,fun y hy hyd=>?_⟩⟩
 ·rcases List.mem_append.1 hy with hy|hy
  ·have:=hgt y hy
   exact⟨by omega,fun e=>by omega⟩
  ·rw[List.mem_singleton.1 hy]
   exact⟨Int.le_refl _,fun _=>.inl rfl⟩
 ·rcases List.mem_append.1 hy with hy|hy
  ·have:=hgt y hy;omega
  ·rw[List.mem_singleton.1 hy]
theorem NJ.other (h:NJ S k d n st)(hS:S.Pairwise ltW)(hn:n<S.length)(hq:qB k d S[n]=true)(hdx:S[n].day<=80000)(he:S[n].day=st.1)(ho:st.2.2<0){jf:Nat}{f:WkR}(hjf:st.2.1=(jf:Nat))(hf:S[jf]?=some f)(hb:S[n].b≠f.b):NJ S k d (n+1) (st.1,st.2.1,(n:Nat)):=by
 unfold NJ at h ⊢;rw[ZI3 hn,if_pos hq]
 rcases h with ⟨-,h2⟩|⟨jf',f',h1,h2,h3,h4,h5,h6⟩
 ·rw[h2] at he;simp only at he;omega
 have hj:jf'=jf:=by rw[h1] at hjf;omega
 subst hj;rw[hf] at h2;cases h2;refine .inr ⟨jf',f,h1,hf,List.mem_append_left _ h3,h4,fun y hy=>?_,.inr ⟨n,S[n],rfl,List.getElem?_eq_getElem hn,by simp,by omega,hb,fun y hy hyd hyb=>?_⟩⟩
 ·rcases List.mem_append.1 hy with hy|hy
  ·exact h5 y hy
  ·rw[List.mem_singleton.1 hy]
   exact⟨by omega,fun _=>.inr (ZLM hS hn h3)⟩
 ·rcases List.mem_append.1 hy with hy|hy
  ·rcases h6 with ⟨-,h6⟩|⟨jo,o,h6,-⟩
   ·exact absurd (h6 y hy hyd) hyb
   ·omega
  ·exact .inl (List.mem_singleton.1 hy)
theorem NJ.keep (h:NJ S k d n st)(hS:S.Pairwise ltW)(hn:n<S.length)(hq:qB k d S[n]=true)(hdx:S[n].day<=80000)(hl:¬S[n].day<st.1)(hno:S[n].day=st.1->st.2.2<0->∀(jf:Nat)(f:WkR),st.2.1=(jf:Nat)->S[jf]?=some f->S[n].b=f.b):NJ S k d (n+1) st:=by
 unfold NJ at h ⊢;rw[ZI3 hn,if_pos hq]
 rcases h with ⟨-,h2⟩|⟨jf,f,h1,h2,h3,h4,h5,h6⟩
 ·rw[h2] at hl;simp only at hl;omega
 refine .inr ⟨jf,f,h1,h2,List.mem_append_left _ h3,h4,fun y hy=>?_,?_⟩
 ·rcases List.mem_append.1 hy with hy|hy
  ·exact h5 y hy
  ·rw[List.mem_singleton.1 hy]
   exact⟨by omega,fun _=>.inr (ZLM hS hn h3)⟩
 ·rcases h6 with ⟨h6,h7⟩|⟨jo,o,h6,h7,h8,h9,h10,h11⟩
  ·refine .inl ⟨h6,fun y hy hyd=>?_⟩
   rcases List.mem_append.1 hy with hy|hy
   ·exact h7 y hy hyd
   ·rw[List.mem_singleton.1 hy] at hyd ⊢
    exact hno (by omega) (by omega) jf f h1 h2
  ·refine .inr ⟨jo,o,h6,h7,List.mem_append_left _ h8,h9,h10,fun y hy hyd hyb=>?_⟩
   rcases List.mem_append.1 hy with hy|hy
   ·exact h11 y hy hyd hyb
   ·rw[List.mem_singleton.1 hy]
    exact .inr (ZLM hS hn h8)
end
def DayJ (S:List WkR)(k:Str)(d:Int)(C:List Twc):Prop:=(C.Pairwise fun z z'=>z.2.1<z'.2.1)/\∀z,z∈C ↔ FoW k (plcW S 80000 k) z/\z.2.1<d
theorem ZHw {S:List WkR}{k:Str}{t:Int}{y:WkR}:y∈plcW S t k ↔ y∈S/\y.kind=5/\y.a=k/\y.day<=t:=by
 unfold plcW plcB;rw[List.mem_filter,ZDd,decide_eq_true_eq]
 constructor
 ·rintro⟨⟨h1,-⟩,h2⟩;exact⟨h1,h2⟩
 ·rintro⟨h1,h2⟩;exact⟨⟨h1,by simp[h2.1]⟩,h2⟩
theorem ZLR {S:List WkR}{k:Str}{d:Int}{y:WkR}:y∈S.filter (qB k d) ↔ y∈S/\y.kind=5/\y.a=k/\d<=y.day:=by
 unfold qB;rw[List.mem_filter,decide_eq_true_eq]
theorem DayJ.zero {S:List WkR}{k:Str}(hd:∀x∈S,0<=x.day):DayJ S k 0 []:=⟨.nil,fun z=>⟨(fun h=>nomatch h),fun ⟨⟨f,o,hf,_,e,_⟩,h⟩=>by
 have:=hd f (ZHw.1 hf).1;rw[e] at h;simp only at h;omega⟩⟩
section
variable {S:List WkR}{k:Str}{d:Int}{C:List Twc}
theorem DayJ.none (hC:DayJ S k d C)(hn:S.filter (qB k d)=[]):DayJ S k 80002 C:=⟨hC.1,fun z=>by
 rw[hC.2];refine and_congr_right fun ⟨f,o,hf,_,e,_⟩=>?_;obtain⟨h1,h2,h3,h4⟩:=ZHw.1 hf
 have:¬d<=f.day:=fun q=>by
  have:=ZLR.2 ⟨h1,h2,h3,q⟩;rw[hn] at this;exact absurd this List.not_mem_nil
 rw[e];simp only;omega⟩
theorem DayJ.step (hd:∀x∈S,0<=x.day/\x.day<=80000)(hC:DayJ S k d C){f:WkR}(hf:f∈S.filter (qB k d))(h5:∀y∈S.filter (qB k d),f.day<=y.day/\(y.day=f.day->y=f\/ltW f y)):((∀y∈S.filter (qB k d),y.day=f.day->y.b=f.b)->DayJ S k (f.day+1) C) ∧
  ∀o,o∈S.filter (qB k d)->o.day=f.day->o.b≠f.b->(∀y∈S.filter (qB k d),y.day=f.day->y.b≠f.b->y=o\/ltW o y)->DayJ S k (f.day+1) (C++[(k,f.day,f.key,o.key)]):=by
 obtain⟨f1,f2,f3,f4⟩:=ZLR.1 hf
 have hup:∀y∈plcW S 80000 k,d<=y.day->y∈S.filter (qB k d):=fun y hy q=>by
  obtain⟨h1,h2,h3,-⟩:=ZHw.1 hy;exact ZLR.2 ⟨h1,h2,h3,q⟩
 have hdn:∀y∈S.filter (qB k d),y∈plcW S 80000 k:=fun y hy=>by
  obtain⟨h1,h2,h3,-⟩:=ZLR.1 hy;exact ZHw.2 ⟨h1,h2,h3,(hd y h1).2⟩
 have hfirst:∀f'∈plcW S 80000 k,f'.day=f.day->(∀y∈plcW S 80000 k,y.day=f'.day->y=f'\/ltW f' y)->f'=f:=fun f' h1 h2 h3=>by
  rcases h3 f (hdn f hf) h2.symm with q|q
  ·exact q.symm
  ·rcases (h5 f' (hup f' h1 (by omega))).2 h2 with r|r
   ·exact r
   ·exact absurd (ZAX.tr q r) (ZAX.irr _)
 refine⟨fun hno=>⟨hC.1,fun z=>?_⟩,fun o ho1 ho2 ho3 ho4=>⟨?_,fun z=>?_⟩⟩
 ·rw[hC.2]
  refine and_congr_right fun ⟨f',o',g1,g2,e,g4,g5,g6,g7⟩=>?_;rw[e];simp only
  constructor
  ·intro q;omega
  ·intro q
   apply Decidable.byContradiction;intro r;have hq:=(h5 f' (hup f' g1 (by omega))).1;have he:f'.day=f.day:=by omega
   have e1:=hno f' (hup f' g1 (by omega)) he;have e2:=hno o' (hup o' g2 (by omega)) (by omega);exact g5 (e2.trans e1.symm)
 ·rw[List.pairwise_append]
  refine⟨hC.1,by simp,fun z hz z' hz'=>?_⟩;rw[List.mem_singleton.1 hz'];have:=((hC.2 z).1 hz).2
  show z.2.1<f.day
  omega
 ·rw[List.mem_append,List.mem_singleton,hC.2]
  constructor
  ·rintro (⟨h1,h2⟩|rfl)
   ·exact⟨h1,by omega⟩
   ·refine⟨⟨f,o,hdn f hf,hdn o ho1,rfl,ho2,ho3,fun y hy hyd=>(h5 y (hup y hy (by omega))).2 hyd,fun y hy hyd hyb=>ho4 y (hup y hy (by omega)) hyd hyb⟩,?_⟩
    show f.day<f.day+1
    omega
  ·rintro⟨⟨f',o',g1,g2,e,g4,g5,g6,g7⟩,hz⟩
   by_cases hlt:z.2.1<d
   ·exact .inl ⟨⟨f',o',g1,g2,e,g4,g5,g6,g7⟩,hlt⟩
   refine .inr ?_;have hzd:z.2.1=f'.day:=by rw[e]
   have hq:=(h5 f' (hup f' g1 (by omega))).1;have he:f'.day=f.day:=by omega
   have e1:=hfirst f' g1 he g6;subst e1;have e2:o'=o:=by
    rcases g7 o (hdn o ho1) ho2 ho3 with q|q
    ·exact q.symm
    ·rcases ho4 o' (hup o' g2 (by omega)) g4 g5 with r|r
     ·exact r
     ·exact absurd (ZAX.tr q r) (ZAX.irr _)
   rw[e,e2]
theorem DayJ.done (hC:DayJ S k d C)(h8:80000<d):C=twO k (ZBB S 80000 k):=ZTm hC.1 fun z=>by
 rw[hC.2];refine⟨fun h=>h.1,fun h=>⟨h,?_⟩⟩;obtain⟨f,o,hf,-,e,-⟩:=h;have:=(ZHw.1 hf).2.2.2;rw[e]
 show f.day<d
 omega
end
end Go.Dw
