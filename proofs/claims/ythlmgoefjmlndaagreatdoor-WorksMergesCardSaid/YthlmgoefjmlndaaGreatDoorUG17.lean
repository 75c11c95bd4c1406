/- WH: chapter 12 with no program in sight: what is the same work; the strings that stand for others. -/
import Derived.Test.YthlmgoefjmlndaaGreatDoorUG5
import Derived.Test.YthlmgoefjmlndaaGreatDoorUG8
set_option linter.unusedVariables false
set_option linter.unusedSimpArgs false
namespace Go.Dw
open Go
inductive Conn (s:List WkR):Str->Str->Prop where
 | refl (k:Str):Conn s k k
 | step {a b c:Str} (h:Conn s a b) (hc:c∈nxtW s b):Conn s a c
theorem Conn.trans {s:List WkR}{a b c:Str}(h1:Conn s a b)(h2:Conn s b c):Conn s a c:=by
 induction h2 with
 | refl=>exact h1
 | step _ hc ih=>exact ih.step hc
theorem Conn.symm {s:List WkR}{a b:Str}(h:Conn s a b):Conn s b a:=by
 induction h with
 | refl=>exact .refl _
 | step _ hc ih=>exact (Conn.step (.refl _) (ZOo.1 hc)).trans ih
theorem ZGL {s:List WkR}{k z:Str}(h:z∈nxtW s k):z∈nodW s:=by
 unfold nodW;refine List.mem_append_left _ (List.mem_append_left _ (ZGM.2 ?_))
 rcases ZEl.1 h with q|q
 ·exact⟨_,q,.inr rfl⟩
 ·exact⟨_,q,.inl rfl⟩
theorem Conn.nod {s:List WkR}{a b:Str}(h:Conn s a b)(ha:a∈nodW s):b∈nodW s:=by
 induction h with
 | refl=>exact ha
 | step _ hc _=>exact ZGL hc
theorem ZL9 {v:Str}:∀(l:List Str)(Q:List QE),∀z∈l,z∈(l.foldl (addQ v) Q).map Prod.fst
 | [],_,_,h=>nomatch h
 | y::l,Q,z,h=>by
  rw[List.foldl_cons]
  rcases List.mem_cons.1 h with rfl|h
  ·obtain⟨R,e⟩:=ZGK v l (addQ v Q z)
   rw[e,List.map_append];refine List.mem_append_left _ ?_;unfold addQ
   split
   ·assumption
   ·rw[List.map_append];exact List.mem_append_right _ (by simp)
  ·exact ZL9 l _ z h
theorem ZL5 (nxt:Str->List Str)(a:Str):∀i j e,j<i->(bfsQ nxt a i)[j]?=some e->∀z∈nxt e.1,z∈(bfsQ nxt a i).map Prod.fst
 | 0,_,_,h,_,_,_=>absurd h (Nat.not_lt_zero _)
 | i+1,j,e,h,hj,z,hz=>by
  obtain⟨R,hR⟩:=ZIs nxt a i (i+1) (Nat.le_succ i)
  rcases Nat.lt_or_ge j (bfsQ nxt a i).length with q|q
  ·have hj0:(bfsQ nxt a i)[j]?=some e:=by rw[hR,List.getElem?_append_left q] at hj;exact hj
   rcases Nat.lt_or_ge j i with q2|q2
   ·have:=ZL5 nxt a i j e q2 hj0 z hz
    rw[hR,List.map_append];exact List.mem_append_left _ this
   ·obtain rfl:j=i:=by omega
    rw[bfsQ,hj0];exact ZL9 _ _ z hz
  ·rcases Nat.lt_or_ge i (bfsQ nxt a i).length with q2|q2
   ·omega
   ·rw[ZKr q2 (i+1) (Nat.le_succ i)] at hj
    rw[List.getElem?_eq_none q] at hj;cases hj
def ZM3 (s:List WkR)(k:Str):List Str:=(bfsQ (nxtW s) k (nodW s).length).map Prod.fst
theorem ZSD {s:List WkR}{k:Str}(hk:k∈nodW s)(i:Nat):(bfsQ (nxtW s) k i).length<=(nodW s).length:=by
 have:=ZBS (QOK.bfs (nxtW s) k i).nd (m:=nodW s) fun z hz=>by
  obtain⟨e,he,rfl⟩:=List.mem_map.1 hz;exact ZPZ (N:=fun z=>z∈nodW s) hk (fun v _ z hz=>ZGL hz) i e he
 rwa [List.length_map] at this
theorem ZJL {s:List WkR}{k v:Str}(hv:Conn s k v):∀(l:List Str){Q:List QE},(∀z∈l,z∈nxtW s v)->(∀e∈Q,Conn s k e.1)->∀e∈l.foldl (addQ v) Q,Conn s k e.1
 | [],_,_,h=>h
 | z::l,Q,hl,h=>by
  rw[List.foldl_cons];refine ZJL hv l (fun z hz=>hl z (List.mem_cons_of_mem _ hz)) fun e he=>?_;unfold addQ at he
  split at he
  ·exact h e he
  ·rcases List.mem_append.1 he with he|he
   ·exact h e he
   ·rw[List.mem_singleton.1 he];exact hv.step (hl z List.mem_cons_self)
theorem ZL7 (s:List WkR)(k:Str):∀i,∀e∈bfsQ (nxtW s) k i,Conn s k e.1
 | 0,e,he=>by
  have:e=(k,[]):=by simpa [bfsQ] using he
  rw[this];exact .refl _
 | i+1,e,he=>by
  have h:=ZL7 s k i;unfold bfsQ at he
  split at he
  ·exact h e he
  ·rename_i e0 he0
   exact ZJL (h e0 (List.mem_of_getElem? he0)) _ (fun _ h=>h) h e he
theorem ZNz {s:List WkR}{k z:Str}(hk:k∈nodW s):z∈ZM3 s k ↔ Conn s k z:=by
 unfold ZM3
 constructor
 ·intro h
  obtain⟨e,he,rfl⟩:=List.mem_map.1 h;exact ZL7 s k _ e he
 ·intro h
  induction h with
  | refl =>
   have:=(QOK.bfs (nxtW s) k (nodW s).length).hd;exact List.mem_map.2 ⟨_,List.mem_of_getElem? this,rfl⟩
  | step _ hc ih =>
   obtain⟨e,he,rfl⟩:=List.mem_map.1 ih;obtain⟨j,hj,rfl⟩:=List.getElem_of_mem he;have hjl:=ZSD hk (nodW s).length;exact ZL5 (nxtW s) k _ j _ (by omega) (List.getElem?_eq_getElem hj) _ hc
def repW (s:List WkR)(k:Str):Str:=(mrgU ltB (ZM3 s k)).headD []
theorem ZHS {s:List WkR}{k:Str}(hk:k∈nodW s):Conn s k (repW s k)/\∀z,Conn s k z->¬ltB z (repW s k):=by
 have hup:=ZI2 ZAR (ZM3 s k);have hm:∀z,z∈mrgU ltB (ZM3 s k) ↔ Conn s k z:=fun z=>by rw[ZCG ZAR,ZNz hk]
 unfold repW
 cases hq:mrgU ltB (ZM3 s k) with
 | nil =>
  have:=(hm k).2 (.refl k);rw[hq] at this;cases this
 | cons y l =>
  rw[hq] at hup hm;refine⟨(hm y).1 List.mem_cons_self,fun z hz hlt=>?_⟩
  rcases List.mem_cons.1 ((hm z).2 hz) with rfl|h
  ·exact ZAR.irr _ hlt
  ·exact ZAR.irr _ (ZAR.tr hlt ((List.pairwise_cons.1 hup).1 z h))
theorem ZOv {s:List WkR}{k r:Str}(hk:k∈nodW s)(h1:Conn s k r)(h2:∀z,Conn s k z->¬ltB z r):r=repW s k:=by
 obtain⟨g1,g2⟩:=ZHS hk
 rcases ZAR.tri r (repW s k) with q|q|q
 ·exact absurd q (g2 r h1)
 ·exact q
 ·exact absurd q (h2 _ g1)
theorem ZP5 {s:List WkR}{a b:Str}(ha:a∈nodW s)(hb:b∈nodW s):repW s a=repW s b ↔ Conn s a b:=by
 obtain⟨g1,g2⟩:=ZHS ha;obtain⟨k1,k2⟩:=ZHS hb
 constructor
 ·intro e
  rw[e] at g1;exact g1.trans k1.symm
 ·intro h
  exact ZOv hb (h.symm.trans g1) fun z hz=>g2 z (h.trans hz)
structure UF (N:List Str)(M:Str->Option Str)(r:Str->Str):Prop where
 no:∀k,M k=none->r k=k
 same:∀k,M k=some k->r k=k
 up:∀k u,M k=some u->u≠k->ltB u k/\u∈N/\r u=r k
 idem:∀k,r (r k)=r k
 root:∀k,M (r k)=none\/M (r k)=some (r k)
 nod:∀k∈N,r k∈N
theorem UF.init (N:List Str):UF N (fun _=>none) id:=⟨fun _ _=>rfl,fun _ _=>rfl,(fun _ _ h=>nomatch h),fun _=>rfl,fun _=>.inl rfl,fun _ h=>h⟩
def uniR (r:Str->Str)(x y k:Str):Str:=if r k=maxB (r x) (r y) then minB (r x) (r y) else r k
theorem ZFT (a b:Str):(minB a b=a/\maxB a b=b)\/(minB a b=b/\maxB a b=a):=by
 unfold minB maxB
 split
 ·exact .inr ⟨rfl,rfl⟩
 ·exact .inl ⟨rfl,rfl⟩
theorem ZSQ {a b:Str}(h:minB a b≠maxB a b):ltB (minB a b) (maxB a b):=by
 unfold minB maxB at *
 split at h
 ·rename_i q
  simp only[q,if_true]
 ·rename_i q
  simp only[q,if_false] at h ⊢
  rcases ZAR.tri a b with g|g|g
  ·exact g
  ·exact absurd g h
  ·exact absurd g q
theorem UF.uni {N:List Str}{M:Str->Option Str}{r:Str->Str}(h:UF N M r){x y:Str}(hx:x∈N)(hy:y∈N) :
  UF N (fun k=>if k=maxB (r x) (r y) then some (minB (r x) (r y)) else M k) (uniR r x y):=by
 have hrx:=h.idem x;have hry:=h.idem y;have hnx:=h.nod x hx;have hny:=h.nod y hy;have hM1:=h.root x;have hM2:=h.root y;have hmin:r (minB (r x) (r y))=minB (r x) (r y):=by
  rcases ZFT (r x) (r y) with ⟨e,-⟩|⟨e,-⟩ <;> rw[e] <;> assumption
 have hmax:r (maxB (r x) (r y))=maxB (r x) (r y):=by
  rcases ZFT (r x) (r y) with ⟨-,e⟩|⟨-,e⟩ <;> rw[e] <;> assumption
 have hnm:minB (r x) (r y)∈N:=by
  rcases ZFT (r x) (r y) with ⟨e,-⟩|⟨e,-⟩ <;> rw[e] <;> assumption
 have hMm:M (minB (r x) (r y))=none\/M (minB (r x) (r y))=some (minB (r x) (r y)):=by
  rcases ZFT (r x) (r y) with ⟨e,-⟩|⟨e,-⟩ <;> rw[e] <;> assumption
 have hlt:=@ZSQ (r x) (r y);unfold uniR;generalize minB (r x) (r y)=n at *;generalize maxB (r x) (r y)=m at *
 have hrn:∀k,(if r (if r k=m then n else r k)=m then n else r (if r k=m then n else r k))=if r k=m then n else r k:=fun k=>by
  by_cases e:r k=m
  ·rw[if_pos e,hmin]
   by_cases e2:n=m
   ·rw[if_pos e2]
   ·rw[if_neg e2]
  ·rw[if_neg e,h.idem,if_neg e]
 constructor
 ·intro k hk
  by_cases e:k=m
  ·rw[if_pos e] at hk;cases hk
  ·rw[if_neg e] at hk
   have:=h.no k hk;rw[this,if_neg e]
 ·intro k hk
  by_cases e:k=m
  ·rw[if_pos e] at hk
   have e2:=Option.some.inj hk;have:r k=m:=by rw[e];exact hmax
   rw[if_pos this];exact e2
  ·rw[if_neg e] at hk
   have:=h.same k hk;rw[this,if_neg e]
 ·intro k u hk hne
  by_cases e:k=m
  ·rw[if_pos e] at hk
   have e2:=Option.some.inj hk;subst e2;have hnm':n≠m:=fun q=>hne (q.trans e.symm);refine⟨by rw[e];exact hlt hnm',hnm,?_⟩;have:r k=m:=by rw[e];exact hmax
   rw[if_pos this,hmin,if_neg hnm']
  ·rw[if_neg e] at hk
   obtain⟨q1,q2,q3⟩:=h.up k u hk hne;exact⟨q1,q2,by rw[q3]⟩
 ·exact hrn
 ·intro k
  by_cases e:r k=m
  ·rw[if_pos e]
   by_cases e2:n=m
   ·rw[if_pos e2];exact .inr rfl
   ·rw[if_neg e2];exact hMm
  ·rw[if_neg e,if_neg e]
   exact h.root k
 ·intro k hk
  split
  ·exact hnm
  ·exact h.nod k hk
theorem ZQe {r:Str->Str}(hi:∀k,r (r k)=r k)(x y:Str):uniR r x y x=uniR r x y y:=by
 unfold uniR
 rcases ZFT (r x) (r y) with ⟨e1,e2⟩|⟨e1,e2⟩
 ·rw[e1,e2]
  simp
 ·rw[e1,e2]
  simp
theorem ZJg {r:Str->Str}{x y a b:Str}(h:r a=r b):uniR r x y a=uniR r x y b:=by
 unfold uniR;rw[h]
theorem ZOR {s:List WkR}{r:Str->Str}{x y:Str}(h:∀k,Conn s k (r k))(hxy:Conn s x y)(k:Str):Conn s k (uniR r x y k):=by
 unfold uniR
 by_cases e:r k=maxB (r x) (r y)
 ·rw[if_pos e]
  have hk:=h k;rw[e] at hk
  rcases ZFT (r x) (r y) with ⟨e1,e2⟩|⟨e1,e2⟩
  ·rw[e1]
   rw[e2] at hk;exact hk.trans ((h y).symm.trans (hxy.symm.trans (h x)))
  ·rw[e1]
   rw[e2] at hk;exact hk.trans ((h x).symm.trans (hxy.trans (h y)))
 ·rw[if_neg e];exact h k
theorem ZOk {N:List Str}{u k:Str}(q1:ltB u k)(q2:u∈N):(N.filter fun z=>decide (ltB z u)).length<(N.filter fun z=>decide (ltB z k)).length:=by
 induction N with
 | nil=>cases q2
 | cons x N ih =>
  have hle:(N.filter fun z=>decide (ltB z u)).length<=(N.filter fun z=>decide (ltB z k)).length:=by
   clear ih q2
   induction N with
   | nil=>exact Nat.le_refl _
   | cons y N ih =>
    rw[List.filter_cons,List.filter_cons]
    by_cases h1:ltB y u
    ·rw[if_pos (decide_eq_true h1),if_pos (decide_eq_true (ZAR.tr h1 q1))]
     simpa using ih
    ·rw[if_neg (by simpa using h1)]
     split
     ·rw[List.length_cons];omega
     ·exact ih
  rw[List.filter_cons,List.filter_cons]
  rcases List.mem_cons.1 q2 with rfl|q2
  ·rw[if_neg (by simp),if_pos (decide_eq_true q1),List.length_cons]
   omega
  ·have:=ih q2
   by_cases h1:ltB x u
   ·rw[if_pos (decide_eq_true h1),if_pos (decide_eq_true (ZAR.tr h1 q1)),List.length_cons,List.length_cons];omega
   ·rw[if_neg (by simpa using h1)]
    split
    ·rw[List.length_cons];omega
    ·exact this
theorem UF.done {s:List WkR}{M:Str->Option Str}{r:Str->Str}(h:UF (nodW s) M r)(hc:∀k,Conn s k (r k))(ht:∀k∈nodW s,∀z∈nxtW s k,r z=r k){k:Str}(hk:k∈nodW s):r k=repW s k:=by
 have hle:∀n k,((nodW s).filter fun z=>decide (ltB z k)).length<=n->¬ltB k (r k):=by
  intro n
  induction n with
  | zero =>
   intro k hn
   cases hM:M k with
   | none=>rw[h.no k hM];exact ZAR.irr k
   | some u =>
    by_cases e:u=k
    ·rw[h.same k (e ▸ hM)];exact ZAR.irr k
    ·obtain⟨q1,q2,-⟩:=h.up k u hM e
     have:u∈(nodW s).filter fun z=>decide (ltB z k):=List.mem_filter.2 ⟨q2,decide_eq_true q1⟩;have:=List.length_pos_of_mem this;omega
  | succ n ih =>
   intro k hn
   cases hM:M k with
   | none=>rw[h.no k hM];exact ZAR.irr k
   | some u =>
    by_cases e:u=k
    ·rw[h.same k (e ▸ hM)];exact ZAR.irr k
    ·obtain⟨q1,q2,q3⟩:=h.up k u hM e
     have hu:=ih u (by
      have hsub:((nodW s).filter fun z=>decide (ltB z u)).length<((nodW s).filter fun z=>decide (ltB z k)).length:=ZOk q1 q2;omega)
     rw[q3] at hu;intro hlt;exact hu (ZAR.tr q1 hlt)
 have hcr:∀z,Conn s k z->r z=r k:=fun z hz=>by
  have:∀a b,Conn s a b->a∈nodW s->r b=r a:=fun a b hab=>by
   induction hab with
   | refl=>intro _;rfl
   | step hab hc ih =>
    intro ha;rw[ht _ (hab.nod ha) _ hc,ih ha]
  exact this k z hz hk
 refine ZOv hk (hc k) fun z hz hlt=>?_;have:=hcr z hz;exact hle _ z (Nat.le_refl _) (by rw[this];exact hlt)
def titN (o:Option WkR)(x:WkR):Option WkR:=match o with
 | none=>some x
 | some y=>if y.day<x.day then some x else some y
def titS (r:Str->Str)(p:List WkR)(k:Str):Option WkR:=p.foldl (fun o x=>if r x.a=k then titN o x else o) none
theorem ZE9 (r:Str->Str)(p:List WkR)(x:WkR)(k:Str):titS r (p++[x]) k=if r x.a=k then titN (titS r p k) x else titS r p k:=by
 unfold titS;rw[List.foldl_append];rfl
def titB (r:Str->Str)(p:List WkR)(k:Str):Str:=((titS r p k).map WkR.b).getD []
def ZBj (k:Str):Bool:=decide (k.take 1=[35])
def ZGu (l:List Str):List Str:=l.foldl (fun R q=>if q∈R then R else R++[q]) []
theorem ZFi (l:List Str)(q:Str):ZGu (l++[q])=if q∈ZGu l then ZGu l else ZGu l++[q]:=by
 unfold ZGu;rw[List.foldl_append];rfl
theorem ZGy (l:List Str):(ZGu l).Nodup:=by
 induction l using ZEd with
 | h0=>simp[ZGu]
 | h1 l x ih =>
  rw[ZFi]
  split
  ·exact ih
  ·rename_i h
   rw[List.nodup_append];refine⟨ih,by simp,fun a ha b hb e=>h ?_⟩;rw[List.mem_singleton] at hb;rw[<-hb,<-e];exact ha
theorem ZHH {l:List Str}{q:Str}:q∈ZGu l ↔ q∈l:=by
 induction l using ZEd with
 | h0=>simp[ZGu]
 | h1 l x ih =>
  rw[ZFi,List.mem_append,List.mem_singleton]
  split
  ·rename_i h
   rw[ih]
   constructor
   ·exact .inl
   ·rintro (q2|rfl)
    ·exact q2
    ·exact ih.1 h
  ·rw[List.mem_append,List.mem_singleton,ih]
theorem ZPi (l:List Str):(ZGu l).length<=l.length:=ZBS (ZGy l) fun _ h=>ZHH.1 h
abbrev WkO:=List Str×List Str×Str
def ZBF (r tit:Str->Str)(p1 p2:List Str)(q:Str):WkO :=
 ((p1.filter fun k=>!ZBj k).filter (fun k=>decide (r k=q)),((p2.filter ZBj).filter fun k=>decide (r k=q)).map (List.drop 1),tit q)
def ZB5 (r:Str->Str)(p1:List Str):List Str:=ZGu ((p1.filter fun k=>!ZBj k).map r)
def ZBf (r tit:Str->Str)(p1 p2:List Str):List WkO:=(ZB5 r p1).map (ZBF r tit p1 p2)
theorem ZGV (r:Str->Str)(p:List Str):(ZB5 r p).Nodup:=ZGy _
theorem map_set {R:List Str}{q:Str}{F F':Str->WkO}(hn:R.Nodup)(hq:q∈R)(h:∀z,z≠q->F' z=F z):R.map F'=(R.map F).set (R.idxOf q) (F' q):=by
 apply List.ext_getElem?;intro t;rw[List.getElem?_set,List.getElem?_map,List.getElem?_map,List.length_map];have hlt:=List.idxOf_lt_length_of_mem hq
 by_cases e:R.idxOf q=t
 ·rw[if_pos e,if_pos (by omega),<-e,List.getElem?_eq_getElem hlt,List.getElem_idxOf];rfl
 ·rw[if_neg e]
  cases hz:R[t]? with
  | none=>rfl
  | some z =>
   have hne:z≠q:=fun q2=>by
    obtain⟨h1,h2⟩:=List.getElem?_eq_some_iff.1 hz;have:R[R.idxOf q]=R[t]:=by rw[List.getElem_idxOf,h2,q2]
    exact e ((List.getElem_inj hn).1 this)
   simp[h z hne]
theorem ZD1 {r:Str->Str}{p:List Str}{k:Str}(hk:ZBj k=false):ZB5 r (p++[k])=if r k∈ZB5 r p then ZB5 r p else ZB5 r p++[r k]:=by
 unfold ZB5;rw[List.filter_append,List.map_append];have:[k].filter (fun k=>!ZBj k)=[k]:=by simp[hk]
 rw[this];exact ZFi _ _
theorem ZIJ {r:Str->Str}{p:List Str}{k:Str}(hk:ZBj k=true):ZB5 r (p++[k])=ZB5 r p:=by
 unfold ZB5;rw[List.filter_append];have:[k].filter (fun k=>!ZBj k)=[]:=by simp[hk]
 rw[this,List.append_nil]
theorem ZKw {r tit:Str->Str}{p p2:List Str}{k:Str}(hk:ZBj k=true):ZBF r tit (p++[k]) p2=ZBF r tit p p2:=by
 funext q
 unfold ZBF;rw[List.filter_append];have:[k].filter (fun k=>!ZBj k)=[]:=by simp[hk]
 rw[this,List.append_nil]
theorem ZDv {r tit:Str->Str}{p p2:List Str}{k:Str}(hk:ZBj k=false)(q:Str):ZBF r tit (p++[k]) p2 q=((ZBF r tit p p2 q).1++if r k=q then [k] else [],(ZBF r tit p p2 q).2):=by
 unfold ZBF;rw[List.filter_append,List.filter_append];have:[k].filter (fun k=>!ZBj k)=[k]:=by simp[hk]
 rw[this]
 by_cases e:r k=q <;> simp[e]
theorem ZLl {r tit:Str->Str}{p1 p:List Str}{k:Str}(hk:ZBj k=false):ZBF r tit p1 (p++[k])=ZBF r tit p1 p:=by
 funext q
 unfold ZBF;rw[List.filter_append (p:=ZBj)];have:[k].filter ZBj=[]:=by simp[hk]
 rw[this,List.append_nil]
theorem ZIG {r tit:Str->Str}{p1 p:List Str}{k:Str}(hk:ZBj k=true)(q:Str):ZBF r tit p1 (p++[k]) q=((ZBF r tit p1 p q).1,(ZBF r tit p1 p q).2.1++(if r k=q then [k.drop 1] else []),(ZBF r tit p1 p q).2.2):=by
 unfold ZBF;rw[List.filter_append (p:=ZBj),List.filter_append];have:[k].filter ZBj=[k]:=by simp[hk]
 rw[this]
 by_cases e:r k=q <;> simp[e]
theorem ZNU {r tit:Str->Str}{p p2:List Str}{k:Str}(hk:ZBj k=false)(hq:r k∈ZB5 r p):ZBf r tit (p++[k]) p2=(ZBf r tit p p2).set ((ZB5 r p).idxOf (r k)) ((ZBF r tit p p2 (r k)).1++[k],(ZBF r tit p p2 (r k)).2):=by
 unfold ZBf;rw[ZD1 hk,if_pos hq];rw[map_set (F:=ZBF r tit p p2) (F':=ZBF r tit (p++[k]) p2) (ZGV _ _) hq fun z hz=>by rw[ZDv hk,if_neg (Ne.symm hz),List.append_nil]];rw[ZDv hk,if_pos rfl]
theorem ZMy {r tit:Str->Str}{p:List Str}{k:Str}(hk:ZBj k=false)(hq:r k ∉ ZB5 r p):ZBf r tit (p++[k]) []=ZBf r tit p []++[([k],[],tit (r k))]:=by
 unfold ZBf;rw[ZD1 hk,if_neg hq,List.map_append,List.map_cons,List.map_nil]
 congr 1
 ·apply List.map_congr_left
  intro z hz;rw[ZDv hk,if_neg (fun e:r k=z=>hq (by rw[e];exact hz)),List.append_nil]
 ·rw[ZDv hk,if_pos rfl]
  have:(ZBF r tit p [] (r k)).1=[]:=by
   unfold ZBF;simp only;rw[List.filter_eq_nil_iff];intro z hz e;exact hq (ZHH.2 (List.mem_map.2 ⟨z,hz,of_decide_eq_true e⟩))
  rw[this];rfl
theorem ZL1 {r tit:Str->Str}{p1 p:List Str}{k:Str}(hk:ZBj k=true)(hq:r k∈ZB5 r p1):ZBf r tit p1 (p++[k])=(ZBf r tit p1 p).set ((ZB5 r p1).idxOf (r k)) ((ZBF r tit p1 p (r k)).1,(ZBF r tit p1 p (r k)).2.1++[k.drop 1],(ZBF r tit p1 p (r k)).2.2):=by
 unfold ZBf;rw[map_set (F:=ZBF r tit p1 p) (F':=ZBF r tit p1 (p++[k])) (ZGV _ _) hq fun z hz=>by rw[ZIG hk,if_neg (Ne.symm hz),List.append_nil]];rw[ZIG hk,if_pos rfl]
theorem ZKR {r tit:Str->Str}{p1 p2:List Str}{q:Str}(hq:q∈ZB5 r p1):(ZBf r tit p1 p2)[(ZB5 r p1).idxOf q]?=some (ZBF r tit p1 p2 q):=by
 unfold ZBf;rw[List.getElem?_map,List.getElem?_eq_getElem (List.idxOf_lt_length_of_mem hq),List.getElem_idxOf];rfl
def ZAO (s:List WkR):List Str:=mrgU ltB (nodW s)
def ZRT (s:List WkR):List WkO:=ZBf (repW s) (titB (repW s) (ofK [4] s)) (ZAO s) (ZAO s)
end Go.Dw
