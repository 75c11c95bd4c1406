/- WH: chapter 12 with no program in sight: what is the same work; the strings that stand for others. -/
import Derived.Test.YthlmgoefjmlndaaGreatDoorTG5
import Derived.Test.YthlmgoefjmlndaaGreatDoorTG8
set_option linter.unusedVariables false
set_option linter.unusedSimpArgs false
namespace Go.Dw
open Go
inductive Conn (s:List WkR):Str->Str->Prop where
 | refl (k:Str):Conn s k k
 | step {a b c:Str} (h:Conn s a b) (hc:c∈nxtW s b):Conn s a c
theorem Conn.trans {s:List WkR}{a b c:Str}(h1:Conn s a b)(h2:Conn s b c):Conn s a c:=by
 induction h2 with
 | refl=>exact h1
 | step _ hc ih=>exact ih.step hc
theorem Conn.symm {s:List WkR}{a b:Str}(h:Conn s a b):Conn s b a:=by
 induction h with
 | refl=>exact .refl _
 | step _ hc ih=>exact (Conn.step (.refl _) (ZPX.1 hc)).trans ih
theorem ZDd {s:List WkR}{k z:Str}(h:z∈nxtW s k):z∈nodW s:=by
 unfold nodW;refine List.mem_append_left _ (List.mem_append_left _ (ZEP.2 ?_))
 rcases ZFR.1 h with q|q
 ·exact⟨_,q,.inr rfl⟩
 ·exact⟨_,q,.inl rfl⟩
theorem Conn.nod {s:List WkR}{a b:Str}(h:Conn s a b)(ha:a∈nodW s):b∈nodW s:=by
 induction h with
 | refl=>exact ha
 | step _ hc _=>exact ZDd hc
theorem ZNA {v:Str}:∀(l:List Str)(Q:List QE),∀z∈l,z∈(l.foldl (addQ v) Q).map Prod.fst
 | [],_,_,h=>nomatch h
 | y::l,Q,z,h=>by
  rw[List.foldl_cons]
  rcases List.mem_cons.1 h with rfl|h
  ·obtain⟨R,e⟩:=ZEX v l (addQ v Q z)
   rw[e,List.map_append];refine List.mem_append_left _ ?_;unfold addQ
   split
   ·assumption
   ·rw[List.map_append];exact List.mem_append_right _ (by simp)
  ·exact ZNA l _ z h
theorem ZNP (nxt:Str->List Str)(a:Str):∀i j e,j<i->(bfsQ nxt a i)[j]?=some e->∀z∈nxt e.1,z∈(bfsQ nxt a i).map Prod.fst
 | 0,_,_,h,_,_,_=>absurd h (Nat.not_lt_zero _)
 | i+1,j,e,h,hj,z,hz=>by
  obtain⟨R,hR⟩:=ZGr nxt a i (i+1) (Nat.le_succ i)
  rcases Nat.lt_or_ge j (bfsQ nxt a i).length with q|q
  ·have hj0:(bfsQ nxt a i)[j]?=some e:=by rw[hR,List.getElem?_append_left q] at hj;exact hj
   rcases Nat.lt_or_ge j i with q2|q2
   ·have:=ZNP nxt a i j e q2 hj0 z hz
    rw[hR,List.map_append];exact List.mem_append_left _ this
   ·obtain rfl:j=i:=by omega
    rw[bfsQ,hj0];exact ZNA _ _ z hz
  ·rcases Nat.lt_or_ge i (bfsQ nxt a i).length with q2|q2
   ·omega
   ·rw[ZLs q2 (i+1) (Nat.le_succ i)] at hj
    rw[List.getElem?_eq_none q] at hj;cases hj
def ZOW (s:List WkR)(k:Str):List Str:=(bfsQ (nxtW s) k (nodW s).length).map Prod.fst
theorem ZLe {s:List WkR}{k:Str}(hk:k∈nodW s)(i:Nat):(bfsQ (nxtW s) k i).length<=(nodW s).length:=by
 have:=ZBV (QOK.bfs (nxtW s) k i).nd (m:=nodW s) fun z hz=>by
  obtain⟨e,he,rfl⟩:=List.mem_map.1 hz;exact ZMn (N:=fun z=>z∈nodW s) hk (fun v _ z hz=>ZDd hz) i e he
 rwa [List.length_map] at this
theorem ZKS {s:List WkR}{k v:Str}(hv:Conn s k v):∀(l:List Str){Q:List QE},(∀z∈l,z∈nxtW s v)->(∀e∈Q,Conn s k e.1)->∀e∈l.foldl (addQ v) Q,Conn s k e.1
 | [],_,_,h=>h
 | z::l,Q,hl,h=>by
  rw[List.foldl_cons];refine ZKS hv l (fun z hz=>hl z (List.mem_cons_of_mem _ hz)) fun e he=>?_;unfold addQ at he
  split at he
  ·exact h e he
  ·rcases List.mem_append.1 he with he|he
   ·exact h e he
   ·rw[List.mem_singleton.1 he];exact hv.step (hl z List.mem_cons_self)
theorem ZMy (s:List WkR)(k:Str):∀i,∀e∈bfsQ (nxtW s) k i,Conn s k e.1
 | 0,e,he=>by
  have:e=(k,[]):=by simpa [bfsQ] using he
  rw[this];exact .refl _
 | i+1,e,he=>by
  have h:=ZMy s k i;unfold bfsQ at he
  split at he
  ·exact h e he
  ·rename_i e0 he0
   exact ZKS (h e0 (List.mem_of_getElem? he0)) _ (fun _ h=>h) h e he
theorem ZPR {s:List WkR}{k z:Str}(hk:k∈nodW s):z∈ZOW s k ↔ Conn s k z:=by
 unfold ZOW
 constructor
 ·intro h
  obtain⟨e,he,rfl⟩:=List.mem_map.1 h;exact ZMy s k _ e he
 ·intro h
  induction h with
  | refl =>
   have:=(QOK.bfs (nxtW s) k (nodW s).length).hd;exact List.mem_map.2 ⟨_,List.mem_of_getElem? this,rfl⟩
  | step _ hc ih =>
   obtain⟨e,he,rfl⟩:=List.mem_map.1 ih;obtain⟨j,hj,rfl⟩:=List.getElem_of_mem he;have hjl:=ZLe hk (nodW s).length;exact ZNP (nxtW s) k _ j _ (by omega) (List.getElem?_eq_getElem hj) _ hc
def repW (s:List WkR)(k:Str):Str:=(mrgU ltB (ZOW s k)).headD []
theorem ZHa {s:List WkR}{k:Str}(hk:k∈nodW s):Conn s k (repW s k)/\∀z,Conn s k z->¬ltB z (repW s k):=by
 have hup:=ZEl ZAP (ZOW s k);have hm:∀z,z∈mrgU ltB (ZOW s k) ↔ Conn s k z:=fun z=>by rw[ZBN ZAP,ZPR hk]
 unfold repW
 cases hq:mrgU ltB (ZOW s k) with
 | nil =>
  have:=(hm k).2 (.refl k);rw[hq] at this;cases this
 | cons y l =>
  rw[hq] at hup hm;refine⟨(hm y).1 List.mem_cons_self,fun z hz hlt=>?_⟩
  rcases List.mem_cons.1 ((hm z).2 hz) with rfl|h
  ·exact ZAP.irr _ hlt
  ·exact ZAP.irr _ (ZAP.tr hlt ((List.pairwise_cons.1 hup).1 z h))
theorem ZQL {s:List WkR}{k r:Str}(hk:k∈nodW s)(h1:Conn s k r)(h2:∀z,Conn s k z->¬ltB z r):r=repW s k:=by
 obtain⟨g1,g2⟩:=ZHa hk
 rcases ZAP.tri r (repW s k) with q|q|q
 ·exact absurd q (g2 r h1)
 ·exact q
 ·exact absurd q (h2 _ g1)
theorem ZQ4 {s:List WkR}{a b:Str}(ha:a∈nodW s)(hb:b∈nodW s):repW s a=repW s b ↔ Conn s a b:=by
 obtain⟨g1,g2⟩:=ZHa ha;obtain⟨k1,k2⟩:=ZHa hb
 constructor
 ·intro e
  rw[e] at g1;exact g1.trans k1.symm
 ·intro h
  exact ZQL hb (h.symm.trans g1) fun z hz=>g2 z (h.trans hz)
structure UF (N:List Str)(M:Str->Option Str)(r:Str->Str):Prop where
 no:∀k,M k=none->r k=k
 same:∀k,M k=some k->r k=k
 up:∀k u,M k=some u->u≠k->ltB u k/\u∈N/\r u=r k
 idem:∀k,r (r k)=r k
 root:∀k,M (r k)=none\/M (r k)=some (r k)
 nod:∀k∈N,r k∈N
theorem UF.init (N:List Str):UF N (fun _=>none) id:=⟨fun _ _=>rfl,fun _ _=>rfl,(fun _ _ h=>nomatch h),fun _=>rfl,fun _=>.inl rfl,fun _ h=>h⟩
def uniR (r:Str->Str)(x y k:Str):Str:=if r k=maxB (r x) (r y) then minB (r x) (r y) else r k
theorem ZF9 (a b:Str):(minB a b=a/\maxB a b=b)\/(minB a b=b/\maxB a b=a):=by
 unfold minB maxB
 split
 ·exact .inr ⟨rfl,rfl⟩
 ·exact .inl ⟨rfl,rfl⟩
theorem ZSM {a b:Str}(h:minB a b≠maxB a b):ltB (minB a b) (maxB a b):=by
 unfold minB maxB at *
 split at h
 ·rename_i q
  simp only[q,if_true]
 ·rename_i q
  simp only[q,if_false] at h ⊢
  rcases ZAP.tri a b with g|g|g
  ·exact g
  ·exact absurd g h
  ·exact absurd g q
theorem UF.uni {N:List Str}{M:Str->Option Str}{r:Str->Str}(h:UF N M r){x y:Str}(hx:x∈N)(hy:y∈N) :
  UF N (fun k=>if k=maxB (r x) (r y) then some (minB (r x) (r y)) else M k) (uniR r x y):=by
 have hrx:=h.idem x;have hry:=h.idem y;have hnx:=h.nod x hx;have hny:=h.nod y hy;have hM1:=h.root x;have hM2:=h.root y;have hmin:r (minB (r x) (r y))=minB (r x) (r y):=by
  rcases ZF9 (r x) (r y) with ⟨e,-⟩|⟨e,-⟩ <;> rw[e] <;> assumption
 have hmax:r (maxB (r x) (r y))=maxB (r x) (r y):=by
  rcases ZF9 (r x) (r y) with ⟨-,e⟩|⟨-,e⟩ <;> rw[e] <;> assumption
 have hnm:minB (r x) (r y)∈N:=by
  rcases ZF9 (r x) (r y) with ⟨e,-⟩|⟨e,-⟩ <;> rw[e] <;> assumption
 have hMm:M (minB (r x) (r y))=none\/M (minB (r x) (r y))=some (minB (r x) (r y)):=by
  rcases ZF9 (r x) (r y) with ⟨e,-⟩|⟨e,-⟩ <;> rw[e] <;> assumption
 have hlt:=@ZSM (r x) (r y);unfold uniR;generalize minB (r x) (r y)=n at *;generalize maxB (r x) (r y)=m at *
 have hrn:∀k,(if r (if r k=m then n else r k)=m then n else r (if r k=m then n else r k))=if r k=m then n else r k:=fun k=>by
  by_cases e:r k=m
  ·rw[if_pos e,hmin]
   by_cases e2:n=m
   ·rw[if_pos e2]
   ·rw[if_neg e2]
  ·rw[if_neg e,h.idem,if_neg e]
 constructor
 ·intro k hk
  by_cases e:k=m
  ·rw[if_pos e] at hk;cases hk
  ·rw[if_neg e] at hk
   have:=h.no k hk;rw[this,if_neg e]
 ·intro k hk
  by_cases e:k=m
  ·rw[if_pos e] at hk
   have e2:=Option.some.inj hk;have:r k=m:=by rw[e];exact hmax
   rw[if_pos this];exact e2
  ·rw[if_neg e] at hk
   have:=h.same k hk;rw[this,if_neg e]
 ·intro k u hk hne
  by_cases e:k=m
  ·rw[if_pos e] at hk
   have e2:=Option.some.inj hk;subst e2;have hnm':n≠m:=fun q=>hne (q.trans e.symm);refine⟨by rw[e];exact hlt hnm',hnm,?_⟩;have:r k=m:=by rw[e];exact hmax
   rw[if_pos this,hmin,if_neg hnm']
  ·rw[if_neg e] at hk
   obtain⟨q1,q2,q3⟩:=h.up k u hk hne;exact⟨q1,q2,by rw[q3]⟩
 ·exact hrn
 ·intro k
  by_cases e:r k=m
  ·rw[if_pos e]
   by_cases e2:n=m
   ·rw[if_pos e2];exact .inr rfl
   ·rw[if_neg e2];exact hMm
  ·rw[if_neg e,if_neg e]
   exact h.root k
 ·intro k hk
  split
  ·exact hnm
  ·exact h.nod k hk
theorem ZRI {r:Str->Str}(hi:∀k,r (r k)=r k)(x y:Str):uniR r x y x=uniR r x y y:=by
 unfold uniR
 rcases ZF9 (r x) (r y) with ⟨e1,e2⟩|⟨e1,e2⟩
 ·rw[e1,e2]
  simp
 ·rw[e1,e2]
  simp
theorem ZJx {r:Str->Str}{x y a b:Str}(h:r a=r b):uniR r x y a=uniR r x y b:=by
 unfold uniR;rw[h]
theorem ZOt {s:List WkR}{r:Str->Str}{x y:Str}(h:∀k,Conn s k (r k))(hxy:Conn s x y)(k:Str):Conn s k (uniR r x y k):=by
 unfold uniR
 by_cases e:r k=maxB (r x) (r y)
 ·rw[if_pos e]
  have hk:=h k;rw[e] at hk
  rcases ZF9 (r x) (r y) with ⟨e1,e2⟩|⟨e1,e2⟩
  ·rw[e1]
   rw[e2] at hk;exact hk.trans ((h y).symm.trans (hxy.symm.trans (h x)))
  ·rw[e1]
   rw[e2] at hk;exact hk.trans ((h x).symm.trans (hxy.trans (h y)))
 ·rw[if_neg e];exact h k
theorem ZPl {N:List Str}{u k:Str}(q1:ltB u k)(q2:u∈N):(N.filter fun z=>decide (ltB z u)).length<(N.filter fun z=>decide (ltB z k)).length:=by
 induction N with
 | nil=>cases q2
 | cons x N ih =>
  have hle:(N.filter fun z=>decide (ltB z u)).length<=(N.filter fun z=>decide (ltB z k)).length:=by
   clear ih q2
   induction N with
   | nil=>exact Nat.le_refl _
   | cons y N ih =>
    rw[List.filter_cons,List.filter_cons]
    by_cases h1:ltB y u
    ·rw[if_pos (decide_eq_true h1),if_pos (decide_eq_true (ZAP.tr h1 q1))]
     simpa using ih
    ·rw[if_neg (by simpa using h1)]
     split
     ·rw[List.length_cons];omega
     ·exact ih
  rw[List.filter_cons,List.filter_cons]
  rcases List.mem_cons.1 q2 with rfl|q2
  ·rw[if_neg (by simp),if_pos (decide_eq_true q1),List.length_cons]
   omega
  ·have:=ih q2
   by_cases h1:ltB x u
   ·rw[if_pos (decide_eq_true h1),if_pos (decide_eq_true (ZAP.tr h1 q1)),List.length_cons,List.length_cons];omega
   ·rw[if_neg (by simpa using h1)]
    split
    ·rw[List.length_cons];omega
    ·exact this
theorem UF.done {s:List WkR}{M:Str->Option Str}{r:Str->Str}(h:UF (nodW s) M r)(hc:∀k,Conn s k (r k))(ht:∀k∈nodW s,∀z∈nxtW s k,r z=r k){k:Str}(hk:k∈nodW s):r k=repW s k:=by
 have hle:∀n k,((nodW s).filter fun z=>decide (ltB z k)).length<=n->¬ltB k (r k):=by
  intro n
  induction n with
  | zero =>
   intro k hn
   cases hM:M k with
   | none=>rw[h.no k hM];exact ZAP.irr k
   | some u =>
    by_cases e:u=k
    ·rw[h.same k (e ▸ hM)];exact ZAP.irr k
    ·obtain⟨q1,q2,-⟩:=h.up k u hM e
     have:u∈(nodW s).filter fun z=>decide (ltB z k):=List.mem_filter.2 ⟨q2,decide_eq_true q1⟩;have:=List.length_pos_of_mem this;omega
  | succ n ih =>
   intro k hn
   cases hM:M k with
   | none=>rw[h.no k hM];exact ZAP.irr k
   | some u =>
    by_cases e:u=k
    ·rw[h.same k (e ▸ hM)];exact ZAP.irr k
    ·obtain⟨q1,q2,q3⟩:=h.up k u hM e
     have hu:=ih u (by
      have hsub:((nodW s).filter fun z=>decide (ltB z u)).length<((nodW s).filter fun z=>decide (ltB z k)).length:=ZPl q1 q2;omega)
     rw[q3] at hu;intro hlt;exact hu (ZAP.tr q1 hlt)
 have hcr:∀z,Conn s k z->r z=r k:=fun z hz=>by
  have:∀a b,Conn s a b->a∈nodW s->r b=r a:=fun a b hab=>by
   induction hab with
   | refl=>intro _;rfl
   | step hab hc ih =>
    intro ha;rw[ht _ (hab.nod ha) _ hc,ih ha]
  exact this k z hz hk
 refine ZQL hk (hc k) fun z hz hlt=>?_;have:=hcr z hz;exact hle _ z (Nat.le_refl _) (by rw[this];exact hlt)
def titN (o:Option WkR)(x:WkR):Option WkR:=match o with
 | none=>some x
 | some y=>if y.day<x.day then some x else some y
def titS (r:Str->Str)(p:List WkR)(k:Str):Option WkR:=p.foldl (fun o x=>if r x.a=k then titN o x else o) none
theorem ZFo (r:Str->Str)(p:List WkR)(x:WkR)(k:Str):titS r (p++[x]) k=if r x.a=k then titN (titS r p k) x else titS r p k:=by
 unfold titS;rw[List.foldl_append];rfl
def titB (r:Str->Str)(p:List WkR)(k:Str):Str:=((titS r p k).map WkR.b).getD []
def ZBc (k:Str):Bool:=decide (k.take 1=[35])
def ZHD (l:List Str):List Str:=l.foldl (fun R q=>if q∈R then R else R++[q]) []
theorem ZFx (l:List Str)(q:Str):ZHD (l++[q])=if q∈ZHD l then ZHD l else ZHD l++[q]:=by
 unfold ZHD;rw[List.foldl_append];rfl
theorem ZG6 (l:List Str):(ZHD l).Nodup:=by
 induction l using ZFL with
 | h0=>simp[ZHD]
 | h1 l x ih =>
  rw[ZFx]
  split
  ·exact ih
  ·rename_i h
   rw[List.nodup_append];refine⟨ih,by simp,fun a ha b hb e=>h ?_⟩;rw[List.mem_singleton] at hb;rw[<-hb,<-e];exact ha
theorem ZG2 {l:List Str}{q:Str}:q∈ZHD l ↔ q∈l:=by
 induction l using ZFL with
 | h0=>simp[ZHD]
 | h1 l x ih =>
  rw[ZFx,List.mem_append,List.mem_singleton]
  split
  ·rename_i h
   rw[ih]
   constructor
   ·exact .inl
   ·rintro (q2|rfl)
    ·exact q2
    ·exact ih.1 h
  ·rw[List.mem_append,List.mem_singleton,ih]
theorem ZQV (l:List Str):(ZHD l).length<=l.length:=ZBV (ZG6 l) fun _ h=>ZG2.1 h
abbrev WkO:=List Str×List Str×Str
def ZBR (r tit:Str->Str)(p1 p2:List Str)(q:Str):WkO :=
 ((p1.filter fun k=>!ZBc k).filter (fun k=>decide (r k=q)),((p2.filter ZBc).filter fun k=>decide (r k=q)).map (List.drop 1),tit q)
def ZCF (r:Str->Str)(p1:List Str):List Str:=ZHD ((p1.filter fun k=>!ZBc k).map r)
def ZBo (r tit:Str->Str)(p1 p2:List Str):List WkO:=(ZCF r p1).map (ZBR r tit p1 p2)
theorem ZG3 (r:Str->Str)(p:List Str):(ZCF r p).Nodup:=ZG6 _
theorem map_set {R:List Str}{q:Str}{F F':Str->WkO}(hn:R.Nodup)(hq:q∈R)(h:∀z,z≠q->F' z=F z):R.map F'=(R.map F).set (R.idxOf q) (F' q):=by
 apply List.ext_getElem?;intro t;rw[List.getElem?_set,List.getElem?_map,List.getElem?_map,List.length_map];have hlt:=List.idxOf_lt_length_of_mem hq
 by_cases e:R.idxOf q=t
 ·rw[if_pos e,if_pos (by omega),<-e,List.getElem?_eq_getElem hlt,List.getElem_idxOf];rfl
 ·rw[if_neg e]
  cases hz:R[t]? with
  | none=>rfl
  | some z =>
   have hne:z≠q:=fun q2=>by
    obtain⟨h1,h2⟩:=List.getElem?_eq_some_iff.1 hz;have:R[R.idxOf q]=R[t]:=by rw[List.getElem_idxOf,h2,q2]
    exact e ((List.getElem_inj hn).1 this)
   simp[h z hne]
theorem ZES {r:Str->Str}{p:List Str}{k:Str}(hk:ZBc k=false):ZCF r (p++[k])=if r k∈ZCF r p then ZCF r p else ZCF r p++[r k]:=by
 unfold ZCF;rw[List.filter_append,List.map_append];have:[k].filter (fun k=>!ZBc k)=[k]:=by simp[hk]
 rw[this];exact ZFx _ _
theorem ZId {r:Str->Str}{p:List Str}{k:Str}(hk:ZBc k=true):ZCF r (p++[k])=ZCF r p:=by
 unfold ZCF;rw[List.filter_append];have:[k].filter (fun k=>!ZBc k)=[]:=by simp[hk]
 rw[this,List.append_nil]
theorem ZL3 {r tit:Str->Str}{p p2:List Str}{k:Str}(hk:ZBc k=true):ZBR r tit (p++[k]) p2=ZBR r tit p p2:=by
 funext q
 unfold ZBR;rw[List.filter_append];have:[k].filter (fun k=>!ZBc k)=[]:=by simp[hk]
 rw[this,List.append_nil]
theorem ZEI {r tit:Str->Str}{p p2:List Str}{k:Str}(hk:ZBc k=false)(q:Str):ZBR r tit (p++[k]) p2 q=((ZBR r tit p p2 q).1++if r k=q then [k] else [],(ZBR r tit p p2 q).2):=by
 unfold ZBR;rw[List.filter_append,List.filter_append];have:[k].filter (fun k=>!ZBc k)=[k]:=by simp[hk]
 rw[this]
 by_cases e:r k=q <;> simp[e]
theorem ZL0 {r tit:Str->Str}{p1 p:List Str}{k:Str}(hk:ZBc k=false):ZBR r tit p1 (p++[k])=ZBR r tit p1 p:=by
 funext q
 unfold ZBR;rw[List.filter_append (p:=ZBc)];have:[k].filter ZBc=[]:=by simp[hk]
 rw[this,List.append_nil]
theorem ZIY {r tit:Str->Str}{p1 p:List Str}{k:Str}(hk:ZBc k=true)(q:Str):ZBR r tit p1 (p++[k]) q=((ZBR r tit p1 p q).1,(ZBR r tit p1 p q).2.1++(if r k=q then [k.drop 1] else []),(ZBR r tit p1 p q).2.2):=by
 unfold ZBR;rw[List.filter_append (p:=ZBc),List.filter_append];have:[k].filter ZBc=[k]:=by simp[hk]
 rw[this]
 by_cases e:r k=q <;> simp[e]
theorem ZOO {r tit:Str->Str}{p p2:List Str}{k:Str}(hk:ZBc k=false)(hq:r k∈ZCF r p):ZBo r tit (p++[k]) p2=(ZBo r tit p p2).set ((ZCF r p).idxOf (r k)) ((ZBR r tit p p2 (r k)).1++[k],(ZBR r tit p p2 (r k)).2):=by
 unfold ZBo;rw[ZES hk,if_pos hq];rw[map_set (F:=ZBR r tit p p2) (F':=ZBR r tit (p++[k]) p2) (ZG3 _ _) hq fun z hz=>by rw[ZEI hk,if_neg (Ne.symm hz),List.append_nil]];rw[ZEI hk,if_pos rfl]
theorem ZOE {r tit:Str->Str}{p:List Str}{k:Str}(hk:ZBc k=false)(hq:r k ∉ ZCF r p):ZBo r tit (p++[k]) []=ZBo r tit p []++[([k],[],tit (r k))]:=by
 unfold ZBo;rw[ZES hk,if_neg hq,List.map_append,List.map_cons,List.map_nil]
 congr 1
 ·apply List.map_congr_left
  intro z hz;rw[ZEI hk,if_neg (fun e:r k=z=>hq (by rw[e];exact hz)),List.append_nil]
 ·rw[ZEI hk,if_pos rfl]
  have:(ZBR r tit p [] (r k)).1=[]:=by
   unfold ZBR;simp only;rw[List.filter_eq_nil_iff];intro z hz e;exact hq (ZG2.2 (List.mem_map.2 ⟨z,hz,of_decide_eq_true e⟩))
  rw[this];rfl
theorem ZL5 {r tit:Str->Str}{p1 p:List Str}{k:Str}(hk:ZBc k=true)(hq:r k∈ZCF r p1):ZBo r tit p1 (p++[k])=(ZBo r tit p1 p).set ((ZCF r p1).idxOf (r k)) ((ZBR r tit p1 p (r k)).1,(ZBR r tit p1 p (r k)).2.1++[k.drop 1],(ZBR r tit p1 p (r k)).2.2):=by
 unfold ZBo;rw[map_set (F:=ZBR r tit p1 p) (F':=ZBR r tit p1 (p++[k])) (ZG3 _ _) hq fun z hz=>by rw[ZIY hk,if_neg (Ne.symm hz),List.append_nil]];rw[ZIY hk,if_pos rfl]
theorem ZKm {r tit:Str->Str}{p1 p2:List Str}{q:Str}(hq:q∈ZCF r p1):(ZBo r tit p1 p2)[(ZCF r p1).idxOf q]?=some (ZBR r tit p1 p2 q):=by
 unfold ZBo;rw[List.getElem?_map,List.getElem?_eq_getElem (List.idxOf_lt_length_of_mem hq),List.getElem_idxOf];rfl
def ZAT (s:List WkR):List Str:=mrgU ltB (nodW s)
def ZSA (s:List WkR):List WkO:=ZBo (repW s) (titB (repW s) (ofK [4] s)) (ZAT s) (ZAT s)
def pthQ (Q:List QE)(s:Str):List Str:=(ZBf Q (Q.length+1) s).reverse
def ZHb (Q:List QE):List (List Str):=Q.map fun e=>pthQ Q e.1
theorem ZFJ (Q:List QE):(ZHb Q).length=Q.length:=by unfold ZHb;rw[List.length_map]
theorem ZSn {a:Str}(ha:a≠[]):ZHb [(a,[])]=[[a]]:=by
 show [(ZBf [(a,[])] (1+1) a).reverse]=[[a]]
 have hp:prdQ [(a,[])] a=some []:=by simp[prdQ]
 rw[ZBf,if_neg ha,hp]
 show [(a::ZBf [(a,[])] 1 []).reverse]=_
 rw[ZBf,if_pos rfl]
 rfl
theorem ZQn {Q:List QE}{s:Str}(hs:s≠[]):∃r,pthQ Q s=r++[s]:=by
 unfold pthQ;rw[ZBf,if_neg hs,List.reverse_cons];exact⟨_,rfl⟩
theorem ZHZ (Q:List QE):∀(n:Nat)(s:Str),(ZBf Q n s).length<=n
 | 0,_=>Nat.le_refl _
 | n+1,s=>by
  rw[ZBf]
  split
  ·exact Nat.zero_le _
  ·rw[List.length_cons]
   have:=ZHZ Q n ((prdQ Q s).getD []);omega
theorem ZSS (Q:List QE)(s:Str):(pthQ Q s).length<=Q.length+1:=by
 unfold pthQ;rw[List.length_reverse];exact ZHZ _ _ _
theorem ZJI {a:Str}{Q R:List QE}(h:QOK a Q)(h2:QOK a (Q++R)){e:QE}(he:e∈Q):pthQ (Q++R) e.1=pthQ Q e.1:=by
 obtain⟨j,hj,rfl⟩:=List.getElem_of_mem he;have hj1:Q[j]?=some Q[j]:=List.getElem?_eq_getElem hj;unfold pthQ;rw[ZFv h h2 hj1,ZIj h hj1 (m:=Q.length+1) (by rw[List.length_append];omega) (by omega)]
theorem ZSg {a v z:Str}{Q:List QE}(h:QOK a Q)(hv:v∈Q.map Prod.fst)(hz:z ∉ Q.map Prod.fst)(hz0:z≠[]):ZHb (addQ v Q z)=ZHb Q++[pthQ Q v++[z]]:=by
 have h2:=h.add (z:=z) hv;have e:addQ v Q z=Q++[(z,v)]:=by unfold addQ;rw[if_neg hz]
 rw[e] at h2 ⊢;obtain⟨ev,hev,rfl⟩:=List.mem_map.1 hv;unfold ZHb;rw[List.map_append]
 congr 1
 ·exact List.map_congr_left fun e he=>ZJI h h2 he
 ·rw[List.map_cons,List.map_nil]
  congr 1
  have hat:(Q++[(z,ev.1)])[Q.length]?=some (z,ev.1):=by simp
  have hp:=ZF7 h2 hat;obtain⟨j,hj,rfl⟩:=List.getElem_of_mem hev;have hj1:Q[j]?=some Q[j]:=List.getElem?_eq_getElem hj;unfold pthQ;rw[ZBf,if_neg hz0,hp,List.reverse_cons]
  congr 2
  rw[List.length_append,List.length_singleton];exact ZFv h h2 hj1
theorem ZQF {v z:Str}{Q:List QE}(hz:z∈Q.map Prod.fst):addQ v Q z=Q:=by unfold addQ;rw[if_pos hz]
theorem ZRa {v z:Str}{Q:List QE}(hz:z ∉ Q.map Prod.fst):(addQ v Q z).map Prod.fst=Q.map Prod.fst++[z]:=by unfold addQ;rw[if_neg hz,List.map_append];rfl
theorem ZNv {nxt:Str->List Str}{a b:Str}{i n:Nat}(hi:i<=n){j:Nat}{e:QE}(hj:(bfsQ nxt a i)[j]?=some e)(he:e.1=b):ZBW nxt a b n=pthQ (bfsQ nxt a i) b:=by
 have hlt:=(List.getElem?_eq_some_iff.1 hj).1;exact ZHi hi hj he (by omega)
end Go.Dw
