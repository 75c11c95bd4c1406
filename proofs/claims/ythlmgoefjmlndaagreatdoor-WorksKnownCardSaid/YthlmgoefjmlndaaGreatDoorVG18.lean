/- WH: chapter 12 with no program in sight: what is the same work; the strings that stand for others. -/
import Derived.Test.YthlmgoefjmlndaaGreatDoorVG5
import Derived.Test.YthlmgoefjmlndaaGreatDoorVG12
set_option linter.unusedVariables false
set_option linter.unusedSimpArgs false
namespace Go.Dw
open Go
inductive Conn (s:List WkR):Str->Str->Prop where
 | refl (k:Str):Conn s k k
 | step {a b c:Str} (h:Conn s a b) (hc:c∈nxtW s b):Conn s a c
theorem Conn.trans {s:List WkR}{a b c:Str}(h1:Conn s a b)(h2:Conn s b c):Conn s a c:=by
 induction h2 with
 | refl=>exact h1
 | step _ hc ih=>exact ih.step hc
theorem Conn.symm {s:List WkR}{a b:Str}(h:Conn s a b):Conn s b a:=by
 induction h with
 | refl=>exact .refl _
 | step _ hc ih=>exact (Conn.step (.refl _) (ZPw.1 hc)).trans ih
theorem ZGd {s:List WkR}{k z:Str}(h:z∈nxtW s k):z∈nodW s:=by
 unfold nodW;refine List.mem_append_left _ (List.mem_append_left _ (ZE7.2 ?_))
 rcases ZFM.1 h with q|q
 ·exact⟨_,q,.inr rfl⟩
 ·exact⟨_,q,.inl rfl⟩
theorem Conn.nod {s:List WkR}{a b:Str}(h:Conn s a b)(ha:a∈nodW s):b∈nodW s:=by
 induction h with
 | refl=>exact ha
 | step _ hc _=>exact ZGd hc
theorem ZMN {v:Str}:∀(l:List Str)(Q:List QE),∀z∈l,z∈(l.foldl (addQ v) Q).map Prod.fst
 | [],_,_,h=>nomatch h
 | y::l,Q,z,h=>by
  rw[List.foldl_cons]
  rcases List.mem_cons.1 h with rfl|h
  ·obtain⟨R,e⟩:=ZGZ v l (addQ v Q z)
   rw[e,List.map_append];refine List.mem_append_left _ ?_;unfold addQ
   split
   ·assumption
   ·rw[List.map_append];exact List.mem_append_right _ (by simp)
  ·exact ZMN l _ z h
theorem ZL2 (nxt:Str->List Str)(a:Str):∀i j e,j<i->(bfsQ nxt a i)[j]?=some e->∀z∈nxt e.1,z∈(bfsQ nxt a i).map Prod.fst
 | 0,_,_,h,_,_,_=>absurd h (Nat.not_lt_zero _)
 | i+1,j,e,h,hj,z,hz=>by
  obtain⟨R,hR⟩:=ZIc nxt a i (i+1) (Nat.le_succ i)
  rcases Nat.lt_or_ge j (bfsQ nxt a i).length with q|q
  ·have hj0:(bfsQ nxt a i)[j]?=some e:=by rw[hR,List.getElem?_append_left q] at hj;exact hj
   rcases Nat.lt_or_ge j i with q2|q2
   ·have:=ZL2 nxt a i j e q2 hj0 z hz
    rw[hR,List.map_append];exact List.mem_append_left _ this
   ·obtain rfl:j=i:=by omega
    rw[bfsQ,hj0];exact ZMN _ _ z hz
  ·rcases Nat.lt_or_ge i (bfsQ nxt a i).length with q2|q2
   ·omega
   ·rw[ZLQ q2 (i+1) (Nat.le_succ i)] at hj
    rw[List.getElem?_eq_none q] at hj;cases hj
def ZNN (s:List WkR)(k:Str):List Str:=(bfsQ (nxtW s) k (nodW s).length).map Prod.fst
theorem ZRi {s:List WkR}{k:Str}(hk:k∈nodW s)(i:Nat):(bfsQ (nxtW s) k i).length<=(nodW s).length:=by
 have:=ZAw (QOK.bfs (nxtW s) k i).nd (m:=nodW s) fun z hz=>by
  obtain⟨e,he,rfl⟩:=List.mem_map.1 hz;exact ZPN (N:=fun z=>z∈nodW s) hk (fun v _ z hz=>ZGd hz) i e he
 rwa [List.length_map] at this
theorem ZKa {s:List WkR}{k v:Str}(hv:Conn s k v):∀(l:List Str){Q:List QE},(∀z∈l,z∈nxtW s v)->(∀e∈Q,Conn s k e.1)->∀e∈l.foldl (addQ v) Q,Conn s k e.1
 | [],_,_,h=>h
 | z::l,Q,hl,h=>by
  rw[List.foldl_cons];refine ZKa hv l (fun z hz=>hl z (List.mem_cons_of_mem _ hz)) fun e he=>?_;unfold addQ at he
  split at he
  ·exact h e he
  ·rcases List.mem_append.1 he with he|he
   ·exact h e he
   ·rw[List.mem_singleton.1 he];exact hv.step (hl z List.mem_cons_self)
theorem ZL8 (s:List WkR)(k:Str):∀i,∀e∈bfsQ (nxtW s) k i,Conn s k e.1
 | 0,e,he=>by
  have:e=(k,[]):=by simpa [bfsQ] using he
  rw[this];exact .refl _
 | i+1,e,he=>by
  have h:=ZL8 s k i;unfold bfsQ at he
  split at he
  ·exact h e he
  ·rename_i e0 he0
   exact ZKa (h e0 (List.mem_of_getElem? he0)) _ (fun _ h=>h) h e he
theorem ZOe {s:List WkR}{k z:Str}(hk:k∈nodW s):z∈ZNN s k ↔ Conn s k z:=by
 unfold ZNN
 constructor
 ·intro h
  obtain⟨e,he,rfl⟩:=List.mem_map.1 h;exact ZL8 s k _ e he
 ·intro h
  induction h with
  | refl =>
   have:=(QOK.bfs (nxtW s) k (nodW s).length).hd;exact List.mem_map.2 ⟨_,List.mem_of_getElem? this,rfl⟩
  | step _ hc ih =>
   obtain⟨e,he,rfl⟩:=List.mem_map.1 ih;obtain⟨j,hj,rfl⟩:=List.getElem_of_mem he;have hjl:=ZRi hk (nodW s).length;exact ZL2 (nxtW s) k _ j _ (by omega) (List.getElem?_eq_getElem hj) _ hc
def repW (s:List WkR)(k:Str):Str:=(mrgU ltB (ZNN s k)).headD []
theorem ZHO {s:List WkR}{k:Str}(hk:k∈nodW s):Conn s k (repW s k)/\∀z,Conn s k z->¬ltB z (repW s k):=by
 have hup:=ZFP ZAK (ZNN s k);have hm:∀z,z∈mrgU ltB (ZNN s k) ↔ Conn s k z:=fun z=>by rw[ZBq ZAK,ZOe hk]
 unfold repW
 cases hq:mrgU ltB (ZNN s k) with
 | nil =>
  have:=(hm k).2 (.refl k);rw[hq] at this;cases this
 | cons y l =>
  rw[hq] at hup hm;refine⟨(hm y).1 List.mem_cons_self,fun z hz hlt=>?_⟩
  rcases List.mem_cons.1 ((hm z).2 hz) with rfl|h
  ·exact ZAK.irr _ hlt
  ·exact ZAK.irr _ (ZAK.tr hlt ((List.pairwise_cons.1 hup).1 z h))
theorem ZO4 {s:List WkR}{k r:Str}(hk:k∈nodW s)(h1:Conn s k r)(h2:∀z,Conn s k z->¬ltB z r):r=repW s k:=by
 obtain⟨g1,g2⟩:=ZHO hk
 rcases ZAK.tri r (repW s k) with q|q|q
 ·exact absurd q (g2 r h1)
 ·exact q
 ·exact absurd q (h2 _ g1)
theorem ZP9 {s:List WkR}{a b:Str}(ha:a∈nodW s)(hb:b∈nodW s):repW s a=repW s b ↔ Conn s a b:=by
 obtain⟨g1,g2⟩:=ZHO ha;obtain⟨k1,k2⟩:=ZHO hb
 constructor
 ·intro e
  rw[e] at g1;exact g1.trans k1.symm
 ·intro h
  exact ZO4 hb (h.symm.trans g1) fun z hz=>g2 z (h.trans hz)
structure UF (N:List Str)(M:Str->Option Str)(r:Str->Str):Prop where
 no:∀k,M k=none->r k=k
 same:∀k,M k=some k->r k=k
 up:∀k u,M k=some u->u≠k->ltB u k/\u∈N/\r u=r k
 idem:∀k,r (r k)=r k
 root:∀k,M (r k)=none\/M (r k)=some (r k)
 nod:∀k∈N,r k∈N
theorem UF.init (N:List Str):UF N (fun _=>none) id:=⟨fun _ _=>rfl,fun _ _=>rfl,(fun _ _ h=>nomatch h),fun _=>rfl,fun _=>.inl rfl,fun _ h=>h⟩
def uniR (r:Str->Str)(x y k:Str):Str:=if r k=maxB (r x) (r y) then minB (r x) (r y) else r k
theorem ZFn (a b:Str):(minB a b=a/\maxB a b=b)\/(minB a b=b/\maxB a b=a):=by
 unfold minB maxB
 split
 ·exact .inr ⟨rfl,rfl⟩
 ·exact .inl ⟨rfl,rfl⟩
theorem ZR4 {a b:Str}(h:minB a b≠maxB a b):ltB (minB a b) (maxB a b):=by
 unfold minB maxB at *
 split at h
 ·rename_i q
  simp only[q,if_true]
 ·rename_i q
  simp only[q,if_false] at h ⊢
  rcases ZAK.tri a b with g|g|g
  ·exact g
  ·exact absurd g h
  ·exact absurd g q
theorem UF.uni {N:List Str}{M:Str->Option Str}{r:Str->Str}(h:UF N M r){x y:Str}(hx:x∈N)(hy:y∈N) :
  UF N (fun k=>if k=maxB (r x) (r y) then some (minB (r x) (r y)) else M k) (uniR r x y):=by
 have hrx:=h.idem x;have hry:=h.idem y;have hnx:=h.nod x hx;have hny:=h.nod y hy;have hM1:=h.root x;have hM2:=h.root y;have hmin:r (minB (r x) (r y))=minB (r x) (r y):=by
  rcases ZFn (r x) (r y) with ⟨e,-⟩|⟨e,-⟩ <;> rw[e] <;> assumption
 have hmax:r (maxB (r x) (r y))=maxB (r x) (r y):=by
  rcases ZFn (r x) (r y) with ⟨-,e⟩|⟨-,e⟩ <;> rw[e] <;> assumption
 have hnm:minB (r x) (r y)∈N:=by
  rcases ZFn (r x) (r y) with ⟨e,-⟩|⟨e,-⟩ <;> rw[e] <;> assumption
 have hMm:M (minB (r x) (r y))=none\/M (minB (r x) (r y))=some (minB (r x) (r y)):=by
  rcases ZFn (r x) (r y) with ⟨e,-⟩|⟨e,-⟩ <;> rw[e] <;> assumption
 have hlt:=@ZR4 (r x) (r y);unfold uniR;generalize minB (r x) (r y)=n at *;generalize maxB (r x) (r y)=m at *
 have hrn:∀k,(if r (if r k=m then n else r k)=m then n else r (if r k=m then n else r k))=if r k=m then n else r k:=fun k=>by
  by_cases e:r k=m
  ·rw[if_pos e,hmin]
   by_cases e2:n=m
   ·rw[if_pos e2]
   ·rw[if_neg e2]
  ·rw[if_neg e,h.idem,if_neg e]
 constructor
 ·intro k hk
  by_cases e:k=m
  ·rw[if_pos e] at hk;cases hk
  ·rw[if_neg e] at hk
   have:=h.no k hk;rw[this,if_neg e]
 ·intro k hk
  by_cases e:k=m
  ·rw[if_pos e] at hk
   have e2:=Option.some.inj hk;have:r k=m:=by rw[e];exact hmax
   rw[if_pos this];exact e2
  ·rw[if_neg e] at hk
   have:=h.same k hk;rw[this,if_neg e]
 ·intro k u hk hne
  by_cases e:k=m
  ·rw[if_pos e] at hk
   have e2:=Option.some.inj hk;subst e2;have hnm':n≠m:=fun q=>hne (q.trans e.symm);refine⟨by rw[e];exact hlt hnm',hnm,?_⟩;have:r k=m:=by rw[e];exact hmax
   rw[if_pos this,hmin,if_neg hnm']
  ·rw[if_neg e] at hk
   obtain⟨q1,q2,q3⟩:=h.up k u hk hne;exact⟨q1,q2,by rw[q3]⟩
 ·exact hrn
 ·intro k
  by_cases e:r k=m
  ·rw[if_pos e]
   by_cases e2:n=m
   ·rw[if_pos e2];exact .inr rfl
   ·rw[if_neg e2];exact hMm
  ·rw[if_neg e,if_neg e]
   exact h.root k
 ·intro k hk
  split
  ·exact hnm
  ·exact h.nod k hk
theorem ZQF {r:Str->Str}(hi:∀k,r (r k)=r k)(x y:Str):uniR r x y x=uniR r x y y:=by
 unfold uniR
 rcases ZFn (r x) (r y) with ⟨e1,e2⟩|⟨e1,e2⟩
 ·rw[e1,e2]
  simp
 ·rw[e1,e2]
  simp
theorem ZKN {r:Str->Str}{x y a b:Str}(h:r a=r b):uniR r x y a=uniR r x y b:=by
 unfold uniR;rw[h]
theorem ZOb {s:List WkR}{r:Str->Str}{x y:Str}(h:∀k,Conn s k (r k))(hxy:Conn s x y)(k:Str):Conn s k (uniR r x y k):=by
 unfold uniR
 by_cases e:r k=maxB (r x) (r y)
 ·rw[if_pos e]
  have hk:=h k;rw[e] at hk
  rcases ZFn (r x) (r y) with ⟨e1,e2⟩|⟨e1,e2⟩
  ·rw[e1]
   rw[e2] at hk;exact hk.trans ((h y).symm.trans (hxy.symm.trans (h x)))
  ·rw[e1]
   rw[e2] at hk;exact hk.trans ((h x).symm.trans (hxy.trans (h y)))
 ·rw[if_neg e];exact h k
theorem ZPM {N:List Str}{u k:Str}(q1:ltB u k)(q2:u∈N):(N.filter fun z=>decide (ltB z u)).length<(N.filter fun z=>decide (ltB z k)).length:=by
 induction N with
 | nil=>cases q2
 | cons x N ih =>
  have hle:(N.filter fun z=>decide (ltB z u)).length<=(N.filter fun z=>decide (ltB z k)).length:=by
   clear ih q2
   induction N with
   | nil=>exact Nat.le_refl _
   | cons y N ih =>
    rw[List.filter_cons,List.filter_cons]
    by_cases h1:ltB y u
    ·rw[if_pos (decide_eq_true h1),if_pos (decide_eq_true (ZAK.tr h1 q1))]
     simpa using ih
    ·rw[if_neg (by simpa using h1)]
     split
     ·rw[List.length_cons];omega
     ·exact ih
  rw[List.filter_cons,List.filter_cons]
  rcases List.mem_cons.1 q2 with rfl|q2
  ·rw[if_neg (by simp),if_pos (decide_eq_true q1),List.length_cons]
   omega
  ·have:=ih q2
   by_cases h1:ltB x u
   ·rw[if_pos (decide_eq_true h1),if_pos (decide_eq_true (ZAK.tr h1 q1)),List.length_cons,List.length_cons];omega
   ·rw[if_neg (by simpa using h1)]
    split
    ·rw[List.length_cons];omega
    ·exact this
theorem UF.done {s:List WkR}{M:Str->Option Str}{r:Str->Str}(h:UF (nodW s) M r)(hc:∀k,Conn s k (r k))(ht:∀k∈nodW s,∀z∈nxtW s k,r z=r k){k:Str}(hk:k∈nodW s):r k=repW s k:=by
 have hle:∀n k,((nodW s).filter fun z=>decide (ltB z k)).length<=n->¬ltB k (r k):=by
  intro n
  induction n with
  | zero =>
   intro k hn
   cases hM:M k with
   | none=>rw[h.no k hM];exact ZAK.irr k
   | some u =>
    by_cases e:u=k
    ·rw[h.same k (e ▸ hM)];exact ZAK.irr k
    ·obtain⟨q1,q2,-⟩:=h.up k u hM e
     have:u∈(nodW s).filter fun z=>decide (ltB z k):=List.mem_filter.2 ⟨q2,decide_eq_true q1⟩;have:=List.length_pos_of_mem this;omega
  | succ n ih =>
   intro k hn
   cases hM:M k with
   | none=>rw[h.no k hM];exact ZAK.irr k
   | some u =>
    by_cases e:u=k
    ·rw[h.same k (e ▸ hM)];exact ZAK.irr k
    ·obtain⟨q1,q2,q3⟩:=h.up k u hM e
     have hu:=ih u (by
      have hsub:((nodW s).filter fun z=>decide (ltB z u)).length<((nodW s).filter fun z=>decide (ltB z k)).length:=ZPM q1 q2;omega)
     rw[q3] at hu;intro hlt;exact hu (ZAK.tr q1 hlt)
 have hcr:∀z,Conn s k z->r z=r k:=fun z hz=>by
  have:∀a b,Conn s a b->a∈nodW s->r b=r a:=fun a b hab=>by
   induction hab with
   | refl=>intro _;rfl
   | step hab hc ih =>
    intro ha;rw[ht _ (hab.nod ha) _ hc,ih ha]
  exact this k z hz hk
 refine ZO4 hk (hc k) fun z hz hlt=>?_;have:=hcr z hz;exact hle _ z (Nat.le_refl _) (by rw[this];exact hlt)
def titN (o:Option WkR)(x:WkR):Option WkR:=match o with
 | none=>some x
 | some y=>if y.day<x.day then some x else some y
def titS (r:Str->Str)(p:List WkR)(k:Str):Option WkR:=p.foldl (fun o x=>if r x.a=k then titN o x else o) none
theorem ZE4 (r:Str->Str)(p:List WkR)(x:WkR)(k:Str):titS r (p++[x]) k=if r x.a=k then titN (titS r p k) x else titS r p k:=by
 unfold titS;rw[List.foldl_append];rfl
def titB (r:Str->Str)(p:List WkR)(k:Str):Str:=((titS r p k).map WkR.b).getD []
def ZBj (k:Str):Bool:=decide (k.take 1=[35])
def ZHg (l:List Str):List Str:=l.foldl (fun R q=>if q∈R then R else R++[q]) []
theorem ZFk (l:List Str)(q:Str):ZHg (l++[q])=if q∈ZHg l then ZHg l else ZHg l++[q]:=by
 unfold ZHg;rw[List.foldl_append];rfl
theorem ZHi (l:List Str):(ZHg l).Nodup:=by
 induction l using ZEy with
 | h0=>simp[ZHg]
 | h1 l x ih =>
  rw[ZFk]
  split
  ·exact ih
  ·rename_i h
   rw[List.nodup_append];refine⟨ih,by simp,fun a ha b hb e=>h ?_⟩;rw[List.mem_singleton] at hb;rw[<-hb,<-e];exact ha
theorem ZHf {l:List Str}{q:Str}:q∈ZHg l ↔ q∈l:=by
 induction l using ZEy with
 | h0=>simp[ZHg]
 | h1 l x ih =>
  rw[ZFk,List.mem_append,List.mem_singleton]
  split
  ·rename_i h
   rw[ih]
   constructor
   ·exact .inl
   ·rintro (q2|rfl)
    ·exact q2
    ·exact ih.1 h
  ·rw[List.mem_append,List.mem_singleton,ih]
theorem ZOL (l:List Str):(ZHg l).length<=l.length:=ZAw (ZHi l) fun _ h=>ZHf.1 h
abbrev WkO:=List Str×List Str×Str
def ZBO (r tit:Str->Str)(p1 p2:List Str)(q:Str):WkO :=
 ((p1.filter fun k=>!ZBj k).filter (fun k=>decide (r k=q)),((p2.filter ZBj).filter fun k=>decide (r k=q)).map (List.drop 1),tit q)
def ZCC (r:Str->Str)(p1:List Str):List Str:=ZHg ((p1.filter fun k=>!ZBj k).map r)
def ZBn (r tit:Str->Str)(p1 p2:List Str):List WkO:=(ZCC r p1).map (ZBO r tit p1 p2)
theorem ZG6 (r:Str->Str)(p:List Str):(ZCC r p).Nodup:=ZHi _
theorem map_set {R:List Str}{q:Str}{F F':Str->WkO}(hn:R.Nodup)(hq:q∈R)(h:∀z,z≠q->F' z=F z):R.map F'=(R.map F).set (R.idxOf q) (F' q):=by
 apply List.ext_getElem?;intro t;rw[List.getElem?_set,List.getElem?_map,List.getElem?_map,List.length_map];have hlt:=List.idxOf_lt_length_of_mem hq
 by_cases e:R.idxOf q=t
 ·rw[if_pos e,if_pos (by omega),<-e,List.getElem?_eq_getElem hlt,List.getElem_idxOf];rfl
 ·rw[if_neg e]
  cases hz:R[t]? with
  | none=>rfl
  | some z =>
   have hne:z≠q:=fun q2=>by
    obtain⟨h1,h2⟩:=List.getElem?_eq_some_iff.1 hz;have:R[R.idxOf q]=R[t]:=by rw[List.getElem_idxOf,h2,q2]
    exact e ((List.getElem_inj hn).1 this)
   simp[h z hne]
theorem ZD9 {r:Str->Str}{p:List Str}{k:Str}(hk:ZBj k=false):ZCC r (p++[k])=if r k∈ZCC r p then ZCC r p else ZCC r p++[r k]:=by
 unfold ZCC;rw[List.filter_append,List.map_append];have:[k].filter (fun k=>!ZBj k)=[k]:=by simp[hk]
 rw[this];exact ZFk _ _
theorem ZIQ {r:Str->Str}{p:List Str}{k:Str}(hk:ZBj k=true):ZCC r (p++[k])=ZCC r p:=by
 unfold ZCC;rw[List.filter_append];have:[k].filter (fun k=>!ZBj k)=[]:=by simp[hk]
 rw[this,List.append_nil]
theorem ZKs {r tit:Str->Str}{p p2:List Str}{k:Str}(hk:ZBj k=true):ZBO r tit (p++[k]) p2=ZBO r tit p p2:=by
 funext q
 unfold ZBO;rw[List.filter_append];have:[k].filter (fun k=>!ZBj k)=[]:=by simp[hk]
 rw[this,List.append_nil]
theorem ZEI {r tit:Str->Str}{p p2:List Str}{k:Str}(hk:ZBj k=false)(q:Str):ZBO r tit (p++[k]) p2 q=((ZBO r tit p p2 q).1++if r k=q then [k] else [],(ZBO r tit p p2 q).2):=by
 unfold ZBO;rw[List.filter_append,List.filter_append];have:[k].filter (fun k=>!ZBj k)=[k]:=by simp[hk]
 rw[this]
 by_cases e:r k=q <;> simp[e]
theorem ZLO {r tit:Str->Str}{p1 p:List Str}{k:Str}(hk:ZBj k=false):ZBO r tit p1 (p++[k])=ZBO r tit p1 p:=by
 funext q
 unfold ZBO;rw[List.filter_append (p:=ZBj)];have:[k].filter ZBj=[]:=by simp[hk]
 rw[this,List.append_nil]
theorem ZIO {r tit:Str->Str}{p1 p:List Str}{k:Str}(hk:ZBj k=true)(q:Str):ZBO r tit p1 (p++[k]) q=((ZBO r tit p1 p q).1,(ZBO r tit p1 p q).2.1++(if r k=q then [k.drop 1] else []),(ZBO r tit p1 p q).2.2):=by
 unfold ZBO;rw[List.filter_append (p:=ZBj),List.filter_append];have:[k].filter ZBj=[k]:=by simp[hk]
 rw[this]
 by_cases e:r k=q <;> simp[e]
theorem ZNU {r tit:Str->Str}{p p2:List Str}{k:Str}(hk:ZBj k=false)(hq:r k∈ZCC r p):ZBn r tit (p++[k]) p2=(ZBn r tit p p2).set ((ZCC r p).idxOf (r k)) ((ZBO r tit p p2 (r k)).1++[k],(ZBO r tit p p2 (r k)).2):=by
 unfold ZBn;rw[ZD9 hk,if_pos hq];rw[map_set (F:=ZBO r tit p p2) (F':=ZBO r tit (p++[k]) p2) (ZG6 _ _) hq fun z hz=>by rw[ZEI hk,if_neg (Ne.symm hz),List.append_nil]];rw[ZEI hk,if_pos rfl]
theorem ZNf {r tit:Str->Str}{p:List Str}{k:Str}(hk:ZBj k=false)(hq:r k ∉ ZCC r p):ZBn r tit (p++[k]) []=ZBn r tit p []++[([k],[],tit (r k))]:=by
 unfold ZBn;rw[ZD9 hk,if_neg hq,List.map_append,List.map_cons,List.map_nil]
 congr 1
 ·apply List.map_congr_left
  intro z hz;rw[ZEI hk,if_neg (fun e:r k=z=>hq (by rw[e];exact hz)),List.append_nil]
 ·rw[ZEI hk,if_pos rfl]
  have:(ZBO r tit p [] (r k)).1=[]:=by
   unfold ZBO;simp only;rw[List.filter_eq_nil_iff];intro z hz e;exact hq (ZHf.2 (List.mem_map.2 ⟨z,hz,of_decide_eq_true e⟩))
  rw[this];rfl
theorem ZKq {r tit:Str->Str}{p1 p:List Str}{k:Str}(hk:ZBj k=true)(hq:r k∈ZCC r p1):ZBn r tit p1 (p++[k])=(ZBn r tit p1 p).set ((ZCC r p1).idxOf (r k)) ((ZBO r tit p1 p (r k)).1,(ZBO r tit p1 p (r k)).2.1++[k.drop 1],(ZBO r tit p1 p (r k)).2.2):=by
 unfold ZBn;rw[map_set (F:=ZBO r tit p1 p) (F':=ZBO r tit p1 (p++[k])) (ZG6 _ _) hq fun z hz=>by rw[ZIO hk,if_neg (Ne.symm hz),List.append_nil]];rw[ZIO hk,if_pos rfl]
theorem ZJu {r tit:Str->Str}{p1 p2:List Str}{q:Str}(hq:q∈ZCC r p1):(ZBn r tit p1 p2)[(ZCC r p1).idxOf q]?=some (ZBO r tit p1 p2 q):=by
 unfold ZBn;rw[List.getElem?_map,List.getElem?_eq_getElem (List.idxOf_lt_length_of_mem hq),List.getElem_idxOf];rfl
def ZAO (s:List WkR):List Str:=mrgU ltB (nodW s)
def ZOB (s:List WkR):List WkO:=ZBn (repW s) (titB (repW s) (ofK [4] s)) (ZAO s) (ZAO s)
abbrev Twc:=Str×Int×Key×Key
def ltTw:Twc->Twc->Prop:=lexP ltB (lexP ltI (lexP (lexP ltB ltI) (lexP ltB ltI)))
theorem ZG9:ZBH ltTw:=ZAo ZAK (ZAo ZBQ (ZAo (ZAo ZAK ZBQ) (ZAo ZAK ZBQ)))
abbrev TwSt:=Nat×Bool×List Twc
def recZ:WkR:=⟨[],0,0,0,[],[]⟩
def ZG1 (k:Str)(l:List WkR)(st:TwSt)(i:Nat):TwSt :=
 let x:=l.getD i recZ
 let b:=if x.day≠(l.getD st.1 recZ).day then i else st.1
 let t:=if x.day≠(l.getD st.1 recZ).day then false else st.2.1
 if t=false/\x.b≠(l.getD b recZ).b then (b,true,st.2.2++[(k,x.day,(l.getD b recZ).key,x.key)]) else (b,t,st.2.2)
def twF (k:Str)(l:List WkR):Nat->TwSt
 | 0=>(0,false,[])
 | i+1=>ZG1 k l (twF k l i) i
def twO (k:Str)(l:List WkR):List Twc:=(twF k l l.length).2.2
structure ZTJ (k:Str)(l:List WkR)(i:Nat)(st:TwSt):Prop where
 bl:0<i->st.1<i
 b0:i=0->st=(0,false,[])
 cur:0<i->(l.getD st.1 recZ).day=(l.getD (i-1) recZ).day
 item:∀z∈st.2.2,z.1=k/\∃y∈l,y.day=z.2.1
 pw:st.2.2.Pairwise fun z z'=>z.2.1<z'.2.1
 le:∀z∈st.2.2,z.2.1<=(l.getD st.1 recZ).day
 lt:st.2.1=false->∀z∈st.2.2,z.2.1<(l.getD st.1 recZ).day
theorem ZLW {k:Str}{l:List WkR}(hl:l.Pairwise fun x y=>x.day<=y.day):∀i,i<=l.length->ZTJ k l i (twF k l i)
 | 0,_=>⟨fun h=>absurd h (Nat.lt_irrefl _),fun _=>rfl,fun h=>absurd h (Nat.lt_irrefl _),(fun _ h=>nomatch h),.nil,(fun _ h=>nomatch h),fun _ _ h=>nomatch h⟩
 | i+1,hi=>by
  have ih:=ZLW (k:=k) (l:=l) hl i (by omega);rw[twF];generalize twF k l i=st at ih;have hxi:l.getD i recZ=l[i]:=by rw[List.getD_eq_getElem?_getD,List.getElem?_eq_getElem (by omega)];rfl
  have hxm:l.getD i recZ∈l:=by rw[hxi];exact List.getElem_mem _
  have hge:0<i->(l.getD st.1 recZ).day<=(l.getD i recZ).day:=fun h0=>by
   rw[ih.cur h0,hxi,List.getD_eq_getElem?_getD,List.getElem?_eq_getElem (show i-1<l.length by omega)];exact List.pairwise_iff_getElem.1 hl (i-1) i (by omega) (by omega) (by omega)
  have hz:i=0->st=(0,false,[]):=ih.b0;unfold ZG1;generalize hx:l.getD i recZ=x at *;simp only
  by_cases hd:x.day≠(l.getD st.1 recZ).day
  ·simp only[if_pos hd,hx]
   rw[if_neg (fun q=>q.2 rfl)]
   have hlt:∀z∈st.2.2,z.2.1<x.day:=fun z hz'=>by
    rcases Nat.eq_zero_or_pos i with h0|h0
    ·rw[hz h0] at hz';cases hz'
    ·have h1:=ih.le z hz'
     have h2:=hge h0;omega
   exact⟨fun _=>Nat.lt_succ_self i,fun h=>absurd h (Nat.succ_ne_zero i),fun _=>by simp[hx],ih.item,ih.pw,fun z hz'=>by simp only[hx];exact Int.le_of_lt (hlt z hz'),fun _ z hz'=>by simp only[hx];exact hlt z hz'⟩
  ·have he:x.day=(l.getD st.1 recZ).day:=Decidable.not_not.1 hd
   simp only[if_neg hd];have hb:st.1<i+1:=by
    rcases Nat.eq_zero_or_pos i with h0|h0
    ·rw[hz h0];exact Nat.succ_pos _
    ·have:=ih.bl h0;omega
   split
   ·rename_i hc
    refine⟨fun _=>hb,fun h=>absurd h (Nat.succ_ne_zero i),fun _=>by show (l.getD st.1 recZ).day=(l.getD i recZ).day;rw[hx,he],fun z hz'=>?_,?_,fun z hz'=>?_,fun h=>by cases h⟩
    ·rcases List.mem_append.1 hz' with q|q
     ·exact ih.item z q
     ·rw[List.mem_singleton.1 q];exact⟨rfl,x,hxm,rfl⟩
    ·rw[List.pairwise_append]
     refine⟨ih.pw,by simp,fun z hz1 z' hz2=>?_⟩;rw[List.mem_singleton.1 hz2]
     show z.2.1<x.day
     rw[he];exact ih.lt hc.1 z hz1
    ·rcases List.mem_append.1 hz' with q|q
     ·exact ih.le z q
     ·rw[List.mem_singleton.1 q];exact Int.le_of_eq he
   ·exact⟨fun _=>hb,fun h=>absurd h (Nat.succ_ne_zero i),fun _=>by show (l.getD st.1 recZ).day=(l.getD i recZ).day;rw[hx,he],ih.item,ih.pw,ih.le,ih.lt⟩
def twL (s:List WkR)(V:List Str):List Twc:=V.flatMap fun k=>twO k (ZBS s 80000 k)
def twcS (s:List WkR):List Twc:=twL s (mrgU ltB (itmW s))
theorem ZMP {s:List WkR}{t:Int}{k:Str}:(ZBS s t k).Pairwise fun x y=>x.day<=y.day :=
 (ZFP ZB3 _).imp fun {x y} h=>by
  rcases ZN2.1 h with q|⟨q,-⟩
  ·exact Int.le_of_lt q
  ·exact Int.le_of_eq q
theorem ZC1 (s:List WkR)(k:Str):(∀z∈twO k (ZBS s 80000 k),z.1=k/\∃y∈s,y.day=z.2.1)/\(twO k (ZBS s 80000 k)).Pairwise fun z z'=>z.2.1<z'.2.1:=by
 have h:=ZLW (k:=k) (ZMP (s:=s) (t:=80000) (k:=k)) _ (Nat.le_refl _);refine⟨fun z hz=>?_,h.pw⟩;obtain⟨h1,y,hy,h2⟩:=h.item z hz;refine⟨h1,y,?_,h2⟩;unfold ZBS at hy;rw[ZBq ZB3] at hy;exact (ZDN.1 (List.mem_filter.1 hy).1).1
theorem ZRU {α:Type}{f:α->Int}:∀{l:List α},(l.Pairwise fun a b=>f a<f b)->∀x∈l,∀y∈l,f x=f y->x=y
 | [],_,_,h,_,_,_=>nomatch h
 | a::l,hp,x,hx,y,hy,e=>by
  rw[List.pairwise_cons] at hp
  rcases List.mem_cons.1 hx with hx'|hx'
  ·rcases List.mem_cons.1 hy with hy'|hy'
   ·rw[hx',hy']
   ·have:=hp.1 y hy';rw[hx'] at e;omega
  ·rcases List.mem_cons.1 hy with hy'|hy'
   ·have:=hp.1 x hx';rw[hy'] at e;omega
   ·exact ZRU hp.2 x hx' y hy' e
theorem ZRS (s:List WkR):(twcS s).Pairwise ltTw:=by
 unfold twcS twL;rw[List.pairwise_flatMap];refine⟨fun k _=>?_,(ZFP ZAK _).imp fun {a b} hab x hx y hy=>?_⟩
 ·obtain⟨h1,h2⟩:=ZC1 s k
  exact List.Pairwise.imp_of_mem (fun {a b} ha hb hab=>.inr ⟨(h1 a ha).1.trans (h1 b hb).1.symm,.inl hab⟩) h2
 ·refine .inl ?_
  rw[((ZC1 s a).1 x hx).1,((ZC1 s b).1 y hy).1];exact hab
theorem ZO8 {s:List WkR}{V:List Str}(hV:∀k,k∈V ↔ k∈itmW s)(e:Twc):e∈twcS s ↔ e∈twL s V:=by
 unfold twcS twL;simp only[List.mem_flatMap,ZBq ZAK,hV]
theorem ZTG {s:List WkR}{V:List Str}(hV:V.Nodup):(twL s V).Nodup:=by
 unfold twL;rw[List.Nodup,List.pairwise_flatMap];refine⟨fun k _=>(ZC1 s k).2.imp fun {a b} h e=>by rw[e] at h;omega,hV.imp fun {a b} hab x hx y hy e=>hab ?_⟩;rw[<-((ZC1 s a).1 x hx).1,e,((ZC1 s b).1 y hy).1]
theorem ZSr {s:List WkR}{V:List Str}:∀x∈twL s V,∀y∈twL s V,x.1=y.1->x.2.1=y.2.1->x=y:=fun x hx y hy e1 e2=>by
 obtain⟨a,-,hxa⟩:=List.mem_flatMap.1 hx;obtain⟨b,-,hyb⟩:=List.mem_flatMap.1 hy;have e:a=b:=by rw[<-((ZC1 s a).1 x hxa).1,e1,((ZC1 s b).1 y hyb).1]
 subst e;exact ZRU (f:=fun z:Twc=>z.2.1) (ZC1 s a).2 x hxa y hyb e2
theorem ZR3 {s:List WkR}{V:List Str}(hd:∀x∈s,0<=x.day/\x.day<=80000):∀z∈twL s V,0<=z.2.1/\z.2.1<=80000:=fun z hz=>by
 obtain⟨a,-,hza⟩:=List.mem_flatMap.1 hz;obtain⟨-,y,hy,e⟩:=(ZC1 s a).1 z hza;rw[<-e];exact hd y hy
theorem ZPc {α β:Type}{f:α->List β}{B:Nat}:∀{L:List α},(∀x∈L,(f x).length<=B)->(L.flatMap f).length<=L.length*B
 | [],_=>Nat.zero_le _
 | x::L,h=>by
  rw[List.flatMap_cons,List.length_append,List.length_cons,Nat.succ_mul];have h1:=h x List.mem_cons_self;have h2:=ZPc (L:=L) fun y hy=>h y (List.mem_cons_of_mem _ hy);omega
section
variable {k:Str}{l:List WkR}{i b:Nat}{t:Bool}{o:List Twc}
theorem ZS4 (h:twF k l i=(b,t,o))(hd:(l.getD i recZ).day≠(l.getD b recZ).day):twF k l (i+1)=(i,false,o):=by
 rw[twF,h];unfold ZG1;simp only[if_pos hd];rw[if_neg (fun q=>q.2 rfl)]
theorem ZSV (h:twF k l i=(b,true,o))(hd:¬(l.getD i recZ).day≠(l.getD b recZ).day):twF k l (i+1)=(b,true,o):=by
 rw[twF,h];unfold ZG1;simp only[if_neg hd];rw[if_neg (fun q=>by cases q.1)]
theorem ZR0 (h:twF k l i=(b,false,o))(hd:¬(l.getD i recZ).day≠(l.getD b recZ).day)(hb:¬(l.getD i recZ).b≠(l.getD b recZ).b):twF k l (i+1)=(b,false,o):=by
 rw[twF,h];unfold ZG1;simp only[if_neg hd];rw[if_neg (fun q=>hb q.2)]
theorem ZSv (h:twF k l i=(b,false,o))(hd:¬(l.getD i recZ).day≠(l.getD b recZ).day)(hb:(l.getD i recZ).b≠(l.getD b recZ).b):twF k l (i+1)=(b,true,o++[(k,(l.getD i recZ).day,(l.getD b recZ).key,(l.getD i recZ).key)]):=by
 rw[twF,h];unfold ZG1;simp only[if_neg hd];rw[if_pos ⟨trivial,hb⟩]
end
theorem ZLl (k:Str)(l:List WkR):∀i,(twF k l i).2.2.length<=i
 | 0=>Nat.le_refl _
 | i+1=>by
  have:=ZLl k l i;rw[twF];unfold ZG1;simp only
  repeat' split
  all_goals try simp only[List.length_append,List.length_cons,List.length_nil]
  all_goals omega
def pthQ (Q:List QE)(s:Str):List Str:=(ZCQ Q (Q.length+1) s).reverse
def pthsQ (Q:List QE):List (List Str):=Q.map fun e=>pthQ Q e.1
end Go.Dw
