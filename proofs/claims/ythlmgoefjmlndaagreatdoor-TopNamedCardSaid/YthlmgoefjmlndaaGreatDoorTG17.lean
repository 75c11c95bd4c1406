/- WH: chapter 12 with no program in sight: what is the same work; the strings that stand for others. -/
import Derived.Test.YthlmgoefjmlndaaGreatDoorTG5
import Derived.Test.YthlmgoefjmlndaaGreatDoorTG8
set_option linter.unusedVariables false
set_option linter.unusedSimpArgs false
namespace Go.Dw
open Go
inductive Conn (s:List WkR):Str->Str->Prop where
 | refl (k:Str):Conn s k k
 | step {a b c:Str} (h:Conn s a b) (hc:c∈nxtW s b):Conn s a c
theorem Conn.trans {s:List WkR}{a b c:Str}(h1:Conn s a b)(h2:Conn s b c):Conn s a c:=by
 induction h2 with
 | refl=>exact h1
 | step _ hc ih=>exact ih.step hc
theorem Conn.symm {s:List WkR}{a b:Str}(h:Conn s a b):Conn s b a:=by
 induction h with
 | refl=>exact .refl _
 | step _ hc ih=>exact (Conn.step (.refl _) (ZRe.1 hc)).trans ih
theorem ZEa {s:List WkR}{k z:Str}(h:z∈nxtW s k):z∈nodW s:=by
 unfold nodW;refine List.mem_append_left _ (List.mem_append_left _ (ZFi.2 ?_))
 rcases ZFf.1 h with q|q
 ·exact⟨_,q,.inr rfl⟩
 ·exact⟨_,q,.inl rfl⟩
theorem Conn.nod {s:List WkR}{a b:Str}(h:Conn s a b)(ha:a∈nodW s):b∈nodW s:=by
 induction h with
 | refl=>exact ha
 | step _ hc _=>exact ZEa hc
theorem ZJq {v:Str}:∀(l:List Str)(Q:List QE),∀z∈l,z∈(l.foldl (addQ v) Q).map Prod.fst
 | [],_,_,h=>nomatch h
 | y::l,Q,z,h=>by
  rw[List.foldl_cons]
  rcases List.mem_cons.1 h with rfl|h
  ·obtain⟨R,e⟩:=ZHH v l (addQ v Q z)
   rw[e,List.map_append];refine List.mem_append_left _ ?_;unfold addQ
   split
   ·assumption
   ·rw[List.map_append];exact List.mem_append_right _ (by simp)
  ·exact ZJq l _ z h
theorem ZN7 (nxt:Str->List Str)(a:Str):∀i j e,j<i->(bfsQ nxt a i)[j]?=some e->∀z∈nxt e.1,z∈(bfsQ nxt a i).map Prod.fst
 | 0,_,_,h,_,_,_=>absurd h (Nat.not_lt_zero _)
 | i+1,j,e,h,hj,z,hz=>by
  obtain⟨R,hR⟩:=ZJ1 nxt a i (i+1) (Nat.le_succ i)
  rcases Nat.lt_or_ge j (bfsQ nxt a i).length with q|q
  ·have hj0:(bfsQ nxt a i)[j]?=some e:=by rw[hR,List.getElem?_append_left q] at hj;exact hj
   rcases Nat.lt_or_ge j i with q2|q2
   ·have:=ZN7 nxt a i j e q2 hj0 z hz
    rw[hR,List.map_append];exact List.mem_append_left _ this
   ·obtain rfl:j=i:=by omega
    rw[bfsQ,hj0];exact ZJq _ _ z hz
  ·rcases Nat.lt_or_ge i (bfsQ nxt a i).length with q2|q2
   ·omega
   ·rw[ZMK q2 (i+1) (Nat.le_succ i)] at hj
    rw[List.getElem?_eq_none q] at hj;cases hj
def ZMg (s:List WkR)(k:Str):List Str:=(bfsQ (nxtW s) k (nodW s).length).map Prod.fst
theorem ZU5 {s:List WkR}{k:Str}(hk:k∈nodW s)(i:Nat):(bfsQ (nxtW s) k i).length<=(nodW s).length:=by
 have:=ZB1 (QOK.bfs (nxtW s) k i).nd (m:=nodW s) fun z hz=>by
  obtain⟨e,he,rfl⟩:=List.mem_map.1 hz;exact ZRQ (N:=fun z=>z∈nodW s) hk (fun v _ z hz=>ZEa hz) i e he
 rwa [List.length_map] at this
theorem ZKt {s:List WkR}{k v:Str}(hv:Conn s k v):∀(l:List Str){Q:List QE},(∀z∈l,z∈nxtW s v)->(∀e∈Q,Conn s k e.1)->∀e∈l.foldl (addQ v) Q,Conn s k e.1
 | [],_,_,h=>h
 | z::l,Q,hl,h=>by
  rw[List.foldl_cons];refine ZKt hv l (fun z hz=>hl z (List.mem_cons_of_mem _ hz)) fun e he=>?_;unfold addQ at he
  split at he
  ·exact h e he
  ·rcases List.mem_append.1 he with he|he
   ·exact h e he
   ·rw[List.mem_singleton.1 he];exact hv.step (hl z List.mem_cons_self)
theorem ZNt (s:List WkR)(k:Str):∀i,∀e∈bfsQ (nxtW s) k i,Conn s k e.1
 | 0,e,he=>by
  have:e=(k,[]):=by simpa [bfsQ] using he
  rw[this];exact .refl _
 | i+1,e,he=>by
  have h:=ZNt s k i;unfold bfsQ at he
  split at he
  ·exact h e he
  ·rename_i e0 he0
   exact ZKt (h e0 (List.mem_of_getElem? he0)) _ (fun _ h=>h) h e he
theorem ZLS {s:List WkR}{k z:Str}(hk:k∈nodW s):z∈ZMg s k ↔ Conn s k z:=by
 unfold ZMg
 constructor
 ·intro h
  obtain⟨e,he,rfl⟩:=List.mem_map.1 h;exact ZNt s k _ e he
 ·intro h
  induction h with
  | refl =>
   have:=(QOK.bfs (nxtW s) k (nodW s).length).hd;exact List.mem_map.2 ⟨_,List.mem_of_getElem? this,rfl⟩
  | step _ hc ih =>
   obtain⟨e,he,rfl⟩:=List.mem_map.1 ih;obtain⟨j,hj,rfl⟩:=List.getElem_of_mem he;have hjl:=ZU5 hk (nodW s).length;exact ZN7 (nxtW s) k _ j _ (by omega) (List.getElem?_eq_getElem hj) _ hc
def repW (s:List WkR)(k:Str):Str:=(mrgU ltB (ZMg s k)).headD []
theorem ZHL {s:List WkR}{k:Str}(hk:k∈nodW s):Conn s k (repW s k)/\∀z,Conn s k z->¬ltB z (repW s k):=by
 have hup:=ZHv ZAR (ZMg s k);have hm:∀z,z∈mrgU ltB (ZMg s k) ↔ Conn s k z:=fun z=>by rw[ZCU ZAR,ZLS hk]
 unfold repW
 cases hq:mrgU ltB (ZMg s k) with
 | nil =>
  have:=(hm k).2 (.refl k);rw[hq] at this;cases this
 | cons y l =>
  rw[hq] at hup hm;refine⟨(hm y).1 List.mem_cons_self,fun z hz hlt=>?_⟩
  rcases List.mem_cons.1 ((hm z).2 hz) with rfl|h
  ·exact ZAR.irr _ hlt
  ·exact ZAR.irr _ (ZAR.tr hlt ((List.pairwise_cons.1 hup).1 z h))
theorem ZPq {s:List WkR}{k r:Str}(hk:k∈nodW s)(h1:Conn s k r)(h2:∀z,Conn s k z->¬ltB z r):r=repW s k:=by
 obtain⟨g1,g2⟩:=ZHL hk
 rcases ZAR.tri r (repW s k) with q|q|q
 ·exact absurd q (g2 r h1)
 ·exact q
 ·exact absurd q (h2 _ g1)
theorem ZNN {s:List WkR}{a b:Str}(ha:a∈nodW s)(hb:b∈nodW s):repW s a=repW s b ↔ Conn s a b:=by
 obtain⟨g1,g2⟩:=ZHL ha;obtain⟨k1,k2⟩:=ZHL hb
 constructor
 ·intro e
  rw[e] at g1;exact g1.trans k1.symm
 ·intro h
  exact ZPq hb (h.symm.trans g1) fun z hz=>g2 z (h.trans hz)
structure UF (N:List Str)(M:Str->Option Str)(r:Str->Str):Prop where
 no:∀k,M k=none->r k=k
 same:∀k,M k=some k->r k=k
 up:∀k u,M k=some u->u≠k->ltB u k/\u∈N/\r u=r k
 idem:∀k,r (r k)=r k
 root:∀k,M (r k)=none\/M (r k)=some (r k)
 nod:∀k∈N,r k∈N
theorem UF.init (N:List Str):UF N (fun _=>none) id:=⟨fun _ _=>rfl,fun _ _=>rfl,(fun _ _ h=>nomatch h),fun _=>rfl,fun _=>.inl rfl,fun _ h=>h⟩
def uniR (r:Str->Str)(x y k:Str):Str:=if r k=maxB (r x) (r y) then minB (r x) (r y) else r k
theorem ZGX (a b:Str):(minB a b=a/\maxB a b=b)\/(minB a b=b/\maxB a b=a):=by
 unfold minB maxB
 split
 ·exact .inr ⟨rfl,rfl⟩
 ·exact .inl ⟨rfl,rfl⟩
theorem ZUa {a b:Str}(h:minB a b≠maxB a b):ltB (minB a b) (maxB a b):=by
 unfold minB maxB at *
 split at h
 ·rename_i q
  simp only[q,if_true]
 ·rename_i q
  simp only[q,if_false] at h ⊢
  rcases ZAR.tri a b with g|g|g
  ·exact g
  ·exact absurd g h
  ·exact absurd g q
theorem UF.uni {N:List Str}{M:Str->Option Str}{r:Str->Str}(h:UF N M r){x y:Str}(hx:x∈N)(hy:y∈N) :
  UF N (fun k=>if k=maxB (r x) (r y) then some (minB (r x) (r y)) else M k) (uniR r x y):=by
 have hrx:=h.idem x;have hry:=h.idem y;have hnx:=h.nod x hx;have hny:=h.nod y hy;have hM1:=h.root x;have hM2:=h.root y;have hmin:r (minB (r x) (r y))=minB (r x) (r y):=by
  rcases ZGX (r x) (r y) with ⟨e,-⟩|⟨e,-⟩ <;> rw[e] <;> assumption
 have hmax:r (maxB (r x) (r y))=maxB (r x) (r y):=by
  rcases ZGX (r x) (r y) with ⟨-,e⟩|⟨-,e⟩ <;> rw[e] <;> assumption
 have hnm:minB (r x) (r y)∈N:=by
  rcases ZGX (r x) (r y) with ⟨e,-⟩|⟨e,-⟩ <;> rw[e] <;> assumption
 have hMm:M (minB (r x) (r y))=none\/M (minB (r x) (r y))=some (minB (r x) (r y)):=by
  rcases ZGX (r x) (r y) with ⟨e,-⟩|⟨e,-⟩ <;> rw[e] <;> assumption
 have hlt:=@ZUa (r x) (r y);unfold uniR;generalize minB (r x) (r y)=n at *;generalize maxB (r x) (r y)=m at *
 have hrn:∀k,(if r (if r k=m then n else r k)=m then n else r (if r k=m then n else r k))=if r k=m then n else r k:=fun k=>by
  by_cases e:r k=m
  ·rw[if_pos e,hmin]
   by_cases e2:n=m
   ·rw[if_pos e2]
   ·rw[if_neg e2]
  ·rw[if_neg e,h.idem,if_neg e]
 constructor
 ·intro k hk
  by_cases e:k=m
  ·rw[if_pos e] at hk;cases hk
  ·rw[if_neg e] at hk
   have:=h.no k hk;rw[this,if_neg e]
 ·intro k hk
  by_cases e:k=m
  ·rw[if_pos e] at hk
   have e2:=Option.some.inj hk;have:r k=m:=by rw[e];exact hmax
   rw[if_pos this];exact e2
  ·rw[if_neg e] at hk
   have:=h.same k hk;rw[this,if_neg e]
 ·intro k u hk hne
  by_cases e:k=m
  ·rw[if_pos e] at hk
   have e2:=Option.some.inj hk;subst e2;have hnm':n≠m:=fun q=>hne (q.trans e.symm);refine⟨by rw[e];exact hlt hnm',hnm,?_⟩;have:r k=m:=by rw[e];exact hmax
   rw[if_pos this,hmin,if_neg hnm']
  ·rw[if_neg e] at hk
   obtain⟨q1,q2,q3⟩:=h.up k u hk hne;exact⟨q1,q2,by rw[q3]⟩
 ·exact hrn
 ·intro k
  by_cases e:r k=m
  ·rw[if_pos e]
   by_cases e2:n=m
   ·rw[if_pos e2];exact .inr rfl
   ·rw[if_neg e2];exact hMm
  ·rw[if_neg e,if_neg e]
   exact h.root k
 ·intro k hk
  split
  ·exact hnm
  ·exact h.nod k hk
theorem ZSl {r:Str->Str}(hi:∀k,r (r k)=r k)(x y:Str):uniR r x y x=uniR r x y y:=by
 unfold uniR
 rcases ZGX (r x) (r y) with ⟨e1,e2⟩|⟨e1,e2⟩
 ·rw[e1,e2]
  simp
 ·rw[e1,e2]
  simp
theorem ZLk {r:Str->Str}{x y a b:Str}(h:r a=r b):uniR r x y a=uniR r x y b:=by
 unfold uniR;rw[h]
theorem ZQF {s:List WkR}{r:Str->Str}{x y:Str}(h:∀k,Conn s k (r k))(hxy:Conn s x y)(k:Str):Conn s k (uniR r x y k):=by
 unfold uniR
 by_cases e:r k=maxB (r x) (r y)
 ·rw[if_pos e]
  have hk:=h k;rw[e] at hk
  rcases ZGX (r x) (r y) with ⟨e1,e2⟩|⟨e1,e2⟩
  ·rw[e1]
   rw[e2] at hk;exact hk.trans ((h y).symm.trans (hxy.symm.trans (h x)))
  ·rw[e1]
   rw[e2] at hk;exact hk.trans ((h x).symm.trans (hxy.trans (h y)))
 ·rw[if_neg e];exact h k
theorem ZQc {N:List Str}{u k:Str}(q1:ltB u k)(q2:u∈N):(N.filter fun z=>decide (ltB z u)).length<(N.filter fun z=>decide (ltB z k)).length:=by
 induction N with
 | nil=>cases q2
 | cons x N ih =>
  have hle:(N.filter fun z=>decide (ltB z u)).length<=(N.filter fun z=>decide (ltB z k)).length:=by
   clear ih q2
   induction N with
   | nil=>exact Nat.le_refl _
   | cons y N ih =>
    rw[List.filter_cons,List.filter_cons]
    by_cases h1:ltB y u
    ·rw[if_pos (decide_eq_true h1),if_pos (decide_eq_true (ZAR.tr h1 q1))]
     simpa using ih
    ·rw[if_neg (by simpa using h1)]
     split
     ·rw[List.length_cons];omega
     ·exact ih
  rw[List.filter_cons,List.filter_cons]
  rcases List.mem_cons.1 q2 with rfl|q2
  ·rw[if_neg (by simp),if_pos (decide_eq_true q1),List.length_cons]
   omega
  ·have:=ih q2
   by_cases h1:ltB x u
   ·rw[if_pos (decide_eq_true h1),if_pos (decide_eq_true (ZAR.tr h1 q1)),List.length_cons,List.length_cons];omega
   ·rw[if_neg (by simpa using h1)]
    split
    ·rw[List.length_cons];omega
    ·exact this
theorem UF.done {s:List WkR}{M:Str->Option Str}{r:Str->Str}(h:UF (nodW s) M r)(hc:∀k,Conn s k (r k))(ht:∀k∈nodW s,∀z∈nxtW s k,r z=r k){k:Str}(hk:k∈nodW s):r k=repW s k:=by
 have hle:∀n k,((nodW s).filter fun z=>decide (ltB z k)).length<=n->¬ltB k (r k):=by
  intro n
  induction n with
  | zero =>
   intro k hn
   cases hM:M k with
   | none=>rw[h.no k hM];exact ZAR.irr k
   | some u =>
    by_cases e:u=k
    ·rw[h.same k (e ▸ hM)];exact ZAR.irr k
    ·obtain⟨q1,q2,-⟩:=h.up k u hM e
     have:u∈(nodW s).filter fun z=>decide (ltB z k):=List.mem_filter.2 ⟨q2,decide_eq_true q1⟩;have:=List.length_pos_of_mem this;omega
  | succ n ih =>
   intro k hn
   cases hM:M k with
   | none=>rw[h.no k hM];exact ZAR.irr k
   | some u =>
    by_cases e:u=k
    ·rw[h.same k (e ▸ hM)];exact ZAR.irr k
    ·obtain⟨q1,q2,q3⟩:=h.up k u hM e
     have hu:=ih u (by
      have hsub:((nodW s).filter fun z=>decide (ltB z u)).length<((nodW s).filter fun z=>decide (ltB z k)).length:=ZQc q1 q2;omega)
     rw[q3] at hu;intro hlt;exact hu (ZAR.tr q1 hlt)
 have hcr:∀z,Conn s k z->r z=r k:=fun z hz=>by
  have:∀a b,Conn s a b->a∈nodW s->r b=r a:=fun a b hab=>by
   induction hab with
   | refl=>intro _;rfl
   | step hab hc ih =>
    intro ha;rw[ht _ (hab.nod ha) _ hc,ih ha]
  exact this k z hz hk
 refine ZPq hk (hc k) fun z hz hlt=>?_;have:=hcr z hz;exact hle _ z (Nat.le_refl _) (by rw[this];exact hlt)
def titN (o:Option WkR)(x:WkR):Option WkR:=match o with
 | none=>some x
 | some y=>if y.day<x.day then some x else some y
def titS (r:Str->Str)(p:List WkR)(k:Str):Option WkR:=p.foldl (fun o x=>if r x.a=k then titN o x else o) none
theorem ZFX (r:Str->Str)(p:List WkR)(x:WkR)(k:Str):titS r (p++[x]) k=if r x.a=k then titN (titS r p k) x else titS r p k:=by
 unfold titS;rw[List.foldl_append];rfl
def titB (r:Str->Str)(p:List WkR)(k:Str):Str:=((titS r p k).map WkR.b).getD []
def ZBY (k:Str):Bool:=decide (k.take 1=[35])
def ZHu (l:List Str):List Str:=l.foldl (fun R q=>if q∈R then R else R++[q]) []
theorem ZGi (l:List Str)(q:Str):ZHu (l++[q])=if q∈ZHu l then ZHu l else ZHu l++[q]:=by
 unfold ZHu;rw[List.foldl_append];rfl
theorem ZHl (l:List Str):(ZHu l).Nodup:=by
 induction l using ZFV with
 | h0=>simp[ZHu]
 | h1 l x ih =>
  rw[ZGi]
  split
  ·exact ih
  ·rename_i h
   rw[List.nodup_append];refine⟨ih,by simp,fun a ha b hb e=>h ?_⟩;rw[List.mem_singleton] at hb;rw[<-hb,<-e];exact ha
theorem ZFP {l:List Str}{q:Str}:q∈ZHu l ↔ q∈l:=by
 induction l using ZFV with
 | h0=>simp[ZHu]
 | h1 l x ih =>
  rw[ZGi,List.mem_append,List.mem_singleton]
  split
  ·rename_i h
   rw[ih]
   constructor
   ·exact .inl
   ·rintro (q2|rfl)
    ·exact q2
    ·exact ih.1 h
  ·rw[List.mem_append,List.mem_singleton,ih]
theorem ZKo (l:List Str):(ZHu l).length<=l.length:=ZB1 (ZHl l) fun _ h=>ZFP.1 h
abbrev WkO:=List Str×List Str×Str
def ZBO (r tit:Str->Str)(p1 p2:List Str)(q:Str):WkO :=
 ((p1.filter fun k=>!ZBY k).filter (fun k=>decide (r k=q)),((p2.filter ZBY).filter fun k=>decide (r k=q)).map (List.drop 1),tit q)
def ZB6 (r:Str->Str)(p1:List Str):List Str:=ZHu ((p1.filter fun k=>!ZBY k).map r)
def ZBy (r tit:Str->Str)(p1 p2:List Str):List WkO:=(ZB6 r p1).map (ZBO r tit p1 p2)
theorem ZDy (r:Str->Str)(p:List Str):(ZB6 r p).Nodup:=ZHl _
theorem map_set {R:List Str}{q:Str}{F F':Str->WkO}(hn:R.Nodup)(hq:q∈R)(h:∀z,z≠q->F' z=F z):R.map F'=(R.map F).set (R.idxOf q) (F' q):=by
 apply List.ext_getElem?;intro t;rw[List.getElem?_set,List.getElem?_map,List.getElem?_map,List.length_map];have hlt:=List.idxOf_lt_length_of_mem hq
 by_cases e:R.idxOf q=t
 ·rw[if_pos e,if_pos (by omega),<-e,List.getElem?_eq_getElem hlt,List.getElem_idxOf];rfl
 ·rw[if_neg e]
  cases hz:R[t]? with
  | none=>rfl
  | some z =>
   have hne:z≠q:=fun q2=>by
    obtain⟨h1,h2⟩:=List.getElem?_eq_some_iff.1 hz;have:R[R.idxOf q]=R[t]:=by rw[List.getElem_idxOf,h2,q2]
    exact e ((List.getElem_inj hn).1 this)
   simp[h z hne]
theorem ZEc {r:Str->Str}{p:List Str}{k:Str}(hk:ZBY k=false):ZB6 r (p++[k])=if r k∈ZB6 r p then ZB6 r p else ZB6 r p++[r k]:=by
 unfold ZB6;rw[List.filter_append,List.map_append];have:[k].filter (fun k=>!ZBY k)=[k]:=by simp[hk]
 rw[this];exact ZGi _ _
theorem ZIf {r:Str->Str}{p:List Str}{k:Str}(hk:ZBY k=true):ZB6 r (p++[k])=ZB6 r p:=by
 unfold ZB6;rw[List.filter_append];have:[k].filter (fun k=>!ZBY k)=[]:=by simp[hk]
 rw[this,List.append_nil]
theorem ZM1 {r tit:Str->Str}{p p2:List Str}{k:Str}(hk:ZBY k=true):ZBO r tit (p++[k]) p2=ZBO r tit p p2:=by
 funext q
 unfold ZBO;rw[List.filter_append];have:[k].filter (fun k=>!ZBY k)=[]:=by simp[hk]
 rw[this,List.append_nil]
theorem ZEd {r tit:Str->Str}{p p2:List Str}{k:Str}(hk:ZBY k=false)(q:Str):ZBO r tit (p++[k]) p2 q=((ZBO r tit p p2 q).1++if r k=q then [k] else [],(ZBO r tit p p2 q).2):=by
 unfold ZBO;rw[List.filter_append,List.filter_append];have:[k].filter (fun k=>!ZBY k)=[k]:=by simp[hk]
 rw[this]
 by_cases e:r k=q <;> simp[e]
theorem ZMJ {r tit:Str->Str}{p1 p:List Str}{k:Str}(hk:ZBY k=false):ZBO r tit p1 (p++[k])=ZBO r tit p1 p:=by
 funext q
 unfold ZBO;rw[List.filter_append (p:=ZBY)];have:[k].filter ZBY=[]:=by simp[hk]
 rw[this,List.append_nil]
theorem ZIw {r tit:Str->Str}{p1 p:List Str}{k:Str}(hk:ZBY k=true)(q:Str):ZBO r tit p1 (p++[k]) q=((ZBO r tit p1 p q).1,(ZBO r tit p1 p q).2.1++(if r k=q then [k.drop 1] else []),(ZBO r tit p1 p q).2.2):=by
 unfold ZBO;rw[List.filter_append (p:=ZBY),List.filter_append];have:[k].filter ZBY=[k]:=by simp[hk]
 rw[this]
 by_cases e:r k=q <;> simp[e]
theorem ZOi {r tit:Str->Str}{p p2:List Str}{k:Str}(hk:ZBY k=false)(hq:r k∈ZB6 r p):ZBy r tit (p++[k]) p2=(ZBy r tit p p2).set ((ZB6 r p).idxOf (r k)) ((ZBO r tit p p2 (r k)).1++[k],(ZBO r tit p p2 (r k)).2):=by
 unfold ZBy;rw[ZEc hk,if_pos hq];rw[map_set (F:=ZBO r tit p p2) (F':=ZBO r tit (p++[k]) p2) (ZDy _ _) hq fun z hz=>by rw[ZEd hk,if_neg (Ne.symm hz),List.append_nil]];rw[ZEd hk,if_pos rfl]
theorem ZOp {r tit:Str->Str}{p:List Str}{k:Str}(hk:ZBY k=false)(hq:r k ∉ ZB6 r p):ZBy r tit (p++[k]) []=ZBy r tit p []++[([k],[],tit (r k))]:=by
 unfold ZBy;rw[ZEc hk,if_neg hq,List.map_append,List.map_cons,List.map_nil]
 congr 1
 ·apply List.map_congr_left
  intro z hz;rw[ZEd hk,if_neg (fun e:r k=z=>hq (by rw[e];exact hz)),List.append_nil]
 ·rw[ZEd hk,if_pos rfl]
  have:(ZBO r tit p [] (r k)).1=[]:=by
   unfold ZBO;simp only;rw[List.filter_eq_nil_iff];intro z hz e;exact hq (ZFP.2 (List.mem_map.2 ⟨z,hz,of_decide_eq_true e⟩))
  rw[this];rfl
theorem ZMn {r tit:Str->Str}{p1 p:List Str}{k:Str}(hk:ZBY k=true)(hq:r k∈ZB6 r p1):ZBy r tit p1 (p++[k])=(ZBy r tit p1 p).set ((ZB6 r p1).idxOf (r k)) ((ZBO r tit p1 p (r k)).1,(ZBO r tit p1 p (r k)).2.1++[k.drop 1],(ZBO r tit p1 p (r k)).2.2):=by
 unfold ZBy;rw[map_set (F:=ZBO r tit p1 p) (F':=ZBO r tit p1 (p++[k])) (ZDy _ _) hq fun z hz=>by rw[ZIw hk,if_neg (Ne.symm hz),List.append_nil]];rw[ZIw hk,if_pos rfl]
theorem ZLA {r tit:Str->Str}{p1 p2:List Str}{q:Str}(hq:q∈ZB6 r p1):(ZBy r tit p1 p2)[(ZB6 r p1).idxOf q]?=some (ZBO r tit p1 p2 q):=by
 unfold ZBy;rw[List.getElem?_map,List.getElem?_eq_getElem (List.idxOf_lt_length_of_mem hq),List.getElem_idxOf];rfl
def ZAN (s:List WkR):List Str:=mrgU ltB (nodW s)
def ZBM (s:List WkR):List WkO:=ZBy (repW s) (titB (repW s) (ofK [4] s)) (ZAN s) (ZAN s)
def pthQ (Q:List QE)(s:Str):List Str:=(ZCG Q (Q.length+1) s).reverse
def ZJi (Q:List QE):List (List Str):=Q.map fun e=>pthQ Q e.1
theorem ZPs (Q:List QE):(ZJi Q).length=Q.length:=by unfold ZJi;rw[List.length_map]
theorem ZUt {a:Str}(ha:a≠[]):ZJi [(a,[])]=[[a]]:=by
 show [(ZCG [(a,[])] (1+1) a).reverse]=[[a]]
 have hp:prdQ [(a,[])] a=some []:=by simp[prdQ]
 rw[ZCG,if_neg ha,hp]
 show [(a::ZCG [(a,[])] 1 []).reverse]=_
 rw[ZCG,if_pos rfl]
 rfl
theorem ZNM {a:Str}{Q R:List QE}(h:QOK a Q)(h2:QOK a (Q++R)){e:QE}(he:e∈Q):pthQ (Q++R) e.1=pthQ Q e.1:=by
 obtain⟨j,hj,rfl⟩:=List.getElem_of_mem he;have hj1:Q[j]?=some Q[j]:=List.getElem?_eq_getElem hj;unfold pthQ;rw[ZGF h h2 hj1,ZId h hj1 (m:=Q.length+1) (by rw[List.length_append];omega) (by omega)]
theorem ZUu {a v z:Str}{Q:List QE}(h:QOK a Q)(hv:v∈Q.map Prod.fst)(hz:z ∉ Q.map Prod.fst)(hz0:z≠[]):ZJi (addQ v Q z)=ZJi Q++[pthQ Q v++[z]]:=by
 have h2:=h.add (z:=z) hv;have e:addQ v Q z=Q++[(z,v)]:=by unfold addQ;rw[if_neg hz]
 rw[e] at h2 ⊢;obtain⟨ev,hev,rfl⟩:=List.mem_map.1 hv;unfold ZJi;rw[List.map_append]
 congr 1
 ·exact List.map_congr_left fun e he=>ZNM h h2 he
 ·rw[List.map_cons,List.map_nil]
  congr 1
  have hat:(Q++[(z,ev.1)])[Q.length]?=some (z,ev.1):=by simp
  have hp:=ZGK h2 hat;obtain⟨j,hj,rfl⟩:=List.getElem_of_mem hev;have hj1:Q[j]?=some Q[j]:=List.getElem?_eq_getElem hj;unfold pthQ;rw[ZCG,if_neg hz0,hp,List.reverse_cons]
  congr 2
  rw[List.length_append,List.length_singleton];exact ZGF h h2 hj1
theorem ZPc {v z:Str}{Q:List QE}(hz:z∈Q.map Prod.fst):addQ v Q z=Q:=by unfold addQ;rw[if_pos hz]
theorem ZN8 {v z:Str}{Q:List QE}(hz:z ∉ Q.map Prod.fst):(addQ v Q z).map Prod.fst=Q.map Prod.fst++[z]:=by unfold addQ;rw[if_neg hz,List.map_append];rfl
theorem ZJ2 {v a:Str}:∀(l:List Str){Q:List QE},(∀z∈l,z≠[])->QOK a Q->v∈Q.map Prod.fst →
  ∃T:List Str,l.foldl (addQ v) Q=Q++T.map (fun z=>(z,v))/\QOK a (l.foldl (addQ v) Q)/\(∀z∈T,z∈l/\z ∉ Q.map Prod.fst)/\(∀e∈Q,pthQ (l.foldl (addQ v) Q) e.1=pthQ Q e.1)/\∀z∈T,pthQ (l.foldl (addQ v) Q) z=pthQ Q v++[z]
 | [],Q,_,h,_=>⟨[],by simp,h,(fun _ h=>nomatch h),fun _ _=>rfl,fun _ h=>nomatch h⟩
 | z::l,Q,hn,h,hv=>by
  rw[List.foldl_cons]
  by_cases hz:z∈Q.map Prod.fst
  ·rw[ZPc hz]
   obtain⟨T,h1,h2,h3,h4,h5⟩:=ZJ2 l (fun z hz=>hn z (List.mem_cons_of_mem _ hz)) h hv;exact⟨T,h1,h2,fun z hz=>⟨List.mem_cons_of_mem _ (h3 z hz).1,(h3 z hz).2⟩,h4,h5⟩
  ·have hz0:z≠[]:=hn z List.mem_cons_self
   have hp:=ZUu h hv hz hz0;have hq:=h.add (z:=z) hv;have e1:addQ v Q z=Q++[(z,v)]:=by unfold addQ;rw[if_neg hz]
   have hv1:v∈(addQ v Q z).map Prod.fst:=by rw[ZN8 hz];exact List.mem_append_left _ hv
   have hold:∀e∈Q,pthQ (addQ v Q z) e.1=pthQ Q e.1:=fun e he=>by
    rw[e1] at hq ⊢;exact ZNM h hq he
   have hnew:pthQ (addQ v Q z) z=pthQ Q v++[z]:=by
    have h1:ZJi (addQ v Q z)=Q.map (fun e=>pthQ (addQ v Q z) e.1)++[pthQ (addQ v Q z) z]:=by
     unfold ZJi;rw[e1,List.map_append];rfl
    rw[hp] at h1;have h2:=List.append_inj_right h1 (by rw[ZPs,List.length_map]);exact (List.cons.inj h2).1.symm
   obtain⟨ev,hev,rfl⟩:=List.mem_map.1 hv;obtain⟨T,h1,h2,h3,h4,h5⟩:=ZJ2 l (fun z hz=>hn z (List.mem_cons_of_mem _ hz)) hq hv1;refine⟨z::T,by rw[h1,e1];simp,h2,fun y hy=>?_,fun e he=>?_,fun y hy=>?_⟩
   ·rcases List.mem_cons.1 hy with rfl|hy
    ·exact⟨List.mem_cons_self,hz⟩
    ·obtain⟨g1,g2⟩:=h3 y hy
     exact⟨List.mem_cons_of_mem _ g1,fun q=>g2 (by rw[ZN8 hz];exact List.mem_append_left _ q)⟩
   ·rw[h4 e (by rw[e1];exact List.mem_append_left _ he),hold e he]
   ·rcases List.mem_cons.1 hy with rfl|hy
    ·rw[h4 (y,ev.1) (by rw[e1];simp),hnew]
    ·rw[h5 y hy,hold ev hev]
def chnP (nxt:Str->List Str)(p:List Str):Prop:=∀i x y,p[i]?=some x->p[i+1]?=some y->y∈nxt x
theorem ZRo {nxt:Str->List Str}{r:List Str}{v z:Str}(h:chnP nxt (r++[v]))(hz:z∈nxt v):chnP nxt (r++[v]++[z]):=fun i x y hx hy=>by
 rcases Nat.lt_or_ge (i+1) (r++[v]).length with q|q
 ·rw[List.getElem?_append_left q] at hy
  rw[List.getElem?_append_left (by omega)] at hx;exact h i x y hx hy
 ·have hlt:=(List.getElem?_eq_some_iff.1 hy).1
  simp only[List.length_append,List.length_cons,List.length_nil] at q hlt;obtain rfl:i=r.length:=by omega
  have e1:(r++[v]++[z])[r.length]?=some v:=by simp
  have e2:(r++[v]++[z])[r.length+1]?=some z:=by simp
  rw[e1] at hx;rw[e2] at hy;cases hx;cases hy;exact hz
structure BInv (nxt:Str->List Str)(a:Str)(i:Nat)(Q:List QE):Prop where
 ok:QOK a Q
 one:pthQ Q a=[a]
 path:∀e∈Q,(pthQ Q e.1)[0]?=some a/\(∃r,pthQ Q e.1=r++[e.1])/\chnP nxt (pthQ Q e.1)/\(pthQ Q e.1).Nodup/\∀z∈pthQ Q e.1,z∈Q.map Prod.fst
 up:Q.Pairwise fun e e'=>(pthQ Q e.1).length<=(pthQ Q e'.1).length
 near:∀e0,Q[i]?=some e0->∀e∈Q,(pthQ Q e.1).length<=(pthQ Q e0.1).length+1
 done:∀j e,j<i->Q[j]?=some e->∀z∈nxt e.1,z∈Q.map Prod.fst/\(pthQ Q z).length<=(pthQ Q e.1).length+1
theorem BInv.bfs {nxt:Str->List Str}{a:Str}(ha:a≠[])(hn:∀v,∀z∈nxt v,z≠[]):∀i,BInv nxt a i (bfsQ nxt a i)
 | 0=>by
  have h1:pthQ [(a,[])] a=[a]:=by
   have:=ZUt ha;unfold ZJi at this
   simpa using this
  refine⟨QOK.one a,h1,fun e he=>?_,by simp[bfsQ],fun e0 _ e he=>?_,fun _ _ h=>absurd h (Nat.not_lt_zero _)⟩
  ·have:e=(a,[]):=by simpa [bfsQ] using he
   subst this
   show (pthQ [(a,[])] a)[0]?=some a/\_
   rw[show pthQ (bfsQ nxt a 0) (a,([]:Str)).1=[a] from h1,h1];exact⟨rfl,⟨[],rfl⟩,fun i x y hx hy=>by simp at hy,by simp,by simp[bfsQ]⟩
  ·have:e=(a,[]):=by simpa [bfsQ] using he
   subst this;rw[show pthQ (bfsQ nxt a 0) (a,([]:Str)).1=[a] from h1];simp
 | i+1=>by
  have ih:=BInv.bfs ha hn i;rw[bfsQ];generalize bfsQ nxt a i=Q at ih ⊢
  split
  ·rename_i hi
   refine⟨ih.ok,ih.one,ih.path,ih.up,fun e0 he0=>?_,fun j e hj he=>?_⟩
   ·rw[List.getElem?_eq_none_iff] at hi
    have:=(List.getElem?_eq_some_iff.1 he0).1;omega
   ·rw[List.getElem?_eq_none_iff] at hi
    have:=(List.getElem?_eq_some_iff.1 he).1;exact ih.done j e (by omega) he
  ·rename_i e0 he0
   have hm0:e0∈Q:=List.mem_of_getElem? he0;have hl0:=(List.getElem?_eq_some_iff.1 he0).1;have hall:=ZJq (v:=e0.1) (nxt e0.1) Q;obtain⟨T,h1,h2,h3,h4,h5⟩:=ZJ2 (nxt e0.1) (fun z hz=>hn _ z hz) ih.ok (List.mem_map.2 ⟨e0,hm0,rfl⟩);unfold ZQC;generalize (nxt e0.1).foldl (addQ e0.1) Q=Q' at h1 h2 h4 h5 hall ⊢;have hnear:=ih.near e0 he0;have ha0:(a,([]:Str))∈Q:=List.mem_of_getElem? ih.ok.hd;have hmem:∀e,e∈Q' ↔ e∈Q\/∃z∈T,(z,e0.1)=e:=fun e=>by rw[h1,List.mem_append,List.mem_map]
   have hlast:=(ih.path e0 hm0).2.1;have hsub:∀z∈Q.map Prod.fst,z∈Q'.map Prod.fst:=fun z hz=>by rw[h1,List.map_append];exact List.mem_append_left _ hz
   have hlenN:∀z∈T,(pthQ Q' z).length=(pthQ Q e0.1).length+1:=fun z hz=>by rw[h5 z hz,List.length_append];rfl
   have hold:∀s∈Q.map Prod.fst,pthQ Q' s=pthQ Q s:=fun s hs=>by
    obtain⟨e,he,rfl⟩:=List.mem_map.1 hs;exact h4 e he
   have hle:∀e∈Q',(pthQ Q' e.1).length<=(pthQ Q e0.1).length+1:=fun e he=>by
    rcases (hmem e).1 he with he|⟨z,hz,rfl⟩
    ·rw[h4 e he];exact hnear e he
    ·exact Nat.le_of_eq (hlenN z hz)
   have hup:Q'.Pairwise fun e e'=>(pthQ Q' e.1).length<=(pthQ Q' e'.1).length:=by
    have hT:∀z∈T,(pthQ Q' z).length=(pthQ Q e0.1).length+1:=hlenN;rw[h1,List.pairwise_append];rw[h1] at h4 hT hle;refine⟨?_,?_,fun e he e' he'=>?_⟩
    ·exact (List.pairwise_iff_getElem.2 fun x y hx hy hxy=>by
      rw[h4 _ (List.getElem_mem hx),h4 _ (List.getElem_mem hy)];exact List.pairwise_iff_getElem.1 ih.up x y hx hy hxy)
    ·refine List.pairwise_map.2 (List.pairwise_iff_getElem.2 fun x y hx hy hxy=>?_)
     rw[hT _ (List.getElem_mem hx),hT _ (List.getElem_mem hy)];exact Nat.le_refl _
    ·obtain⟨z,hz,rfl⟩:=List.mem_map.1 he'
     rw[hT z hz];exact hle e (List.mem_append_left _ he)
   refine⟨h2,by rw[hold a (List.mem_map.2 ⟨_,ha0,rfl⟩)];exact ih.one,fun e he=>?_,hup,fun e1 he1 e he=>?_,fun j e hj he z hz=>?_⟩
   ·rcases (hmem e).1 he with he|⟨z,hz,rfl⟩
    ·rw[h4 e he]
     obtain⟨g1,g2,g3,g4,g5⟩:=ih.path e he;exact⟨g1,g2,g3,g4,fun z hz=>hsub z (g5 z hz)⟩
    ·simp only
     obtain⟨g1,⟨r,g2⟩,g3,g4,g5⟩:=ih.path e0 hm0;rw[h5 z hz];refine⟨?_,⟨_,rfl⟩,?_,?_,fun y hy=>?_⟩
     ·rw[List.getElem?_append_left (by rw[g2];simp)];exact g1
     ·rw[g2] at g3 ⊢
      exact ZRo g3 (h3 z hz).1
     ·rw[List.nodup_append]
      refine⟨g4,by simp,fun x hx y hy e=>?_⟩;rw[List.mem_singleton] at hy;subst hy;subst e;exact (h3 x hz).2 (g5 x hx)
     ·rcases List.mem_append.1 hy with hy|hy
      ·exact hsub y (g5 y hy)
      ·rw[List.mem_singleton] at hy
       subst hy;exact List.mem_map.2 ⟨(y,e0.1),(hmem _).2 (.inr ⟨y,hz,rfl⟩),rfl⟩
   ·have h6:=hle e he
    have hi1:=(List.getElem?_eq_some_iff.1 he1).1;have h7:(pthQ Q' e0.1).length<=(pthQ Q' e1.1).length:=by
     have hi0:Q'[i]?=some e0:=by rw[h1,List.getElem?_append_left hl0];exact he0
     have:=List.pairwise_iff_getElem.1 hup i (i+1) (by omega) hi1 (by omega)
     rwa [(List.getElem?_eq_some_iff.1 hi0).2,(List.getElem?_eq_some_iff.1 he1).2] at this
    rw[h4 e0 hm0] at h7;omega
   ·rcases Nat.lt_or_ge j i with q|q
    ·have hjl:j<Q.length:=by omega
     have hj0:Q[j]?=some e:=by rw[h1,List.getElem?_append_left hjl] at he;exact he
     obtain⟨g1,g2⟩:=ih.done j e q hj0 z hz;rw[hold z g1,h4 e (List.mem_of_getElem? hj0)];exact⟨hsub z g1,g2⟩
    ·obtain rfl:j=i:=by omega
     have e1:e=e0:=by
      rw[h1,List.getElem?_append_left hl0,he0] at he;exact (Option.some.inj he).symm
     subst e1;have hzQ:=hall z hz;refine⟨hzQ,?_⟩;rw[h4 e hm0];obtain⟨ez,hez,rfl⟩:=List.mem_map.1 hzQ;exact hle ez hez
theorem ZKJ {s:List WkR}(hne:∀k∈nodW s,k≠[]){a b:Str}(ha:a∈nodW s)(hp:ZBr (nxtW s) a b (nodW s).length≠[]) :
  (ZBr (nxtW s) a b (nodW s).length)[0]?=some a/\(∃r,ZBr (nxtW s) a b (nodW s).length=r++[b])/\chnP (nxtW s) (ZBr (nxtW s) a b (nodW s).length)/\(ZBr (nxtW s) a b (nodW s).length).Nodup/\b∈ZMg s a:=by
 have hB:=BInv.bfs (hne a ha) (nxt:=nxtW s) (fun v z hz=>hne z (ZEa hz)) (nodW s).length
 by_cases hb:b∈(bfsQ (nxtW s) a (nodW s).length).map Prod.fst
 ·have e:ZBr (nxtW s) a b (nodW s).length=pthQ (bfsQ (nxtW s) a (nodW s).length) b:=by unfold ZBr pthQ;rw[if_pos hb]
  rw[e];obtain⟨eb,heb,rfl⟩:=List.mem_map.1 hb;obtain⟨h1,h2,h3,h4,-⟩:=hB.path eb heb;exact⟨h1,h2,h3,h4,hb⟩
 ·exact absurd (by unfold ZBr;rw[if_neg hb]) hp
theorem ZQB {s:List WkR}(hne:∀k∈nodW s,k≠[]){a b:Str}(ha:a∈nodW s):ZBr (nxtW s) a b (nodW s).length≠[] ↔ Conn s a b:=by
 rw[<-ZLS ha];refine⟨fun h=>(ZKJ hne ha h).2.2.2.2,fun hb0=>?_⟩;have hb:b∈(bfsQ (nxtW s) a (nodW s).length).map Prod.fst:=hb0;have hB:=BInv.bfs (hne a ha) (nxt:=nxtW s) (fun v z hz=>hne z (ZEa hz)) (nodW s).length;have e:ZBr (nxtW s) a b (nodW s).length=pthQ (bfsQ (nxtW s) a (nodW s).length) b:=by unfold ZBr pthQ;rw[if_pos hb]
 rw[e];obtain⟨eb,heb,rfl⟩:=List.mem_map.1 hb;obtain⟨-,⟨r,h2⟩,-⟩:=hB.path eb heb;rw[h2];simp
theorem ZUM (s:List WkR):(ZAN s).Pairwise ltB:=ZHv ZAR _
theorem ZKE {s:List WkR}{k:Str}:k∈ZAN s ↔ k∈nodW s:=ZCU ZAR
section
variable {s:List WkR}
theorem ZDx {i:Nat}{w:WkO}(h:(ZBM s)[i]?=some w):∃q,(ZB6 (repW s) (ZAN s))[i]?=some q/\w=ZBO (repW s) (titB (repW s) (ofK [4] s)) (ZAN s) (ZAN s) q:=by
 unfold ZBM ZBy at h;rw[List.getElem?_map] at h
 cases hq:(ZB6 (repW s) (ZAN s))[i]? with
 | none=>rw[hq] at h;cases h
 | some q=>rw[hq] at h;exact⟨q,rfl,(Option.some.inj h).symm⟩
theorem ZEU {q k:Str}:k∈(ZBO (repW s) (titB (repW s) (ofK [4] s)) (ZAN s) (ZAN s) q).1 ↔ k∈nodW s/\ZBY k=false/\repW s k=q:=by
 unfold ZBO;simp only[List.mem_filter,decide_eq_true_eq,ZKE,Bool.not_eq_true']
 constructor
 ·rintro⟨⟨a,b⟩,c⟩;exact⟨a,b,c⟩
 ·rintro⟨a,b,c⟩;exact⟨⟨a,b⟩,c⟩
theorem ZRH {q k:Str}:k∈(ZBO (repW s) (titB (repW s) (ofK [4] s)) (ZAN s) (ZAN s) q).2.1 ↔ (35::k)∈nodW s/\repW s (35::k)=q:=by
 unfold ZBO;simp only[List.mem_map,List.mem_filter,decide_eq_true_eq,ZKE]
 constructor
 ·rintro⟨z,⟨⟨a,b⟩,c⟩,rfl⟩
  have hz:z=35::z.drop 1:=by
   unfold ZBY at b
   cases z with
   | nil=>simp at b
   | cons c t=>simp at b;simp[b]
  rw[<-hz];exact⟨a,c⟩
 ·rintro⟨a,b⟩
  exact⟨35::k,⟨⟨a,by simp[ZBY]⟩,b⟩,rfl⟩
theorem ZMQ {i j:Nat}{w u:WkO}(hi:(ZBM s)[i]?=some w)(hj:(ZBM s)[j]?=some u){k:Str}(h:(k∈w.1/\k∈u.1)\/(k∈w.2.1/\k∈u.2.1)):i=j:=by
 obtain⟨q,hq,rfl⟩:=ZDx hi;obtain⟨p,hp,rfl⟩:=ZDx hj;have e:q=p:=by
  rcases h with ⟨h1,h2⟩|⟨h1,h2⟩
  ·rw[<-(ZEU.1 h1).2.2,<-(ZEU.1 h2).2.2]
  ·rw[<-(ZRH.1 h1).2,<-(ZRH.1 h2).2]
 subst e;obtain⟨hi1,hi2⟩:=List.getElem?_eq_some_iff.1 hq;obtain⟨hj1,hj2⟩:=List.getElem?_eq_some_iff.1 hp;exact (List.getElem_inj (ZDy _ _)).1 (hi2.trans hj2.symm)
theorem ZH1 {i:Nat}{w:WkO}(h:(ZBM s)[i]?=some w):w.1.Pairwise ltB/\w.1≠[]:=by
 obtain⟨q,hq,rfl⟩:=ZDx h;refine⟨((ZUM s).filter _).filter _,?_⟩;have:=List.mem_of_getElem? hq;unfold ZB6 at this;obtain⟨k,hk,hkq⟩:=List.mem_map.1 (ZFP.1 this);obtain⟨h1,h2⟩:=List.mem_filter.1 hk;exact List.ne_nil_of_mem (ZEU.2 ⟨ZKE.1 h1,by simpa using h2,hkq⟩)
theorem ZOX {i j:Nat}{w u:WkO}(hi:(ZBM s)[i]?=some w)(hj:(ZBM s)[j]?=some u){a b:Str}(ha:a∈w.1)(hb:b∈u.1):Conn s a b ↔ i=j:=by
 obtain⟨q,hq,rfl⟩:=ZDx hi;obtain⟨p,hp,rfl⟩:=ZDx hj;obtain⟨a1,-,a3⟩:=ZEU.1 ha;obtain⟨b1,-,b3⟩:=ZEU.1 hb;rw[<-ZNN a1 b1,a3,b3];obtain⟨hi1,hi2⟩:=List.getElem?_eq_some_iff.1 hq;obtain⟨hj1,hj2⟩:=List.getElem?_eq_some_iff.1 hp
 constructor
 ·intro e
  exact (List.getElem_inj (ZDy _ _)).1 (hi2.trans (e.trans hj2.symm))
 ·intro e
  subst e;exact hi2.symm.trans hj2
end
end Go.Dw
