/- WH: chapter 12 with no program in sight: what is the same work; the strings that stand for others. -/
import Derived.Test.YthlmgoefjmlndaaGreatDoorWG5
import Derived.Test.YthlmgoefjmlndaaGreatDoorWG8
set_option linter.unusedVariables false
set_option linter.unusedSimpArgs false
namespace Go.Dw
open Go
inductive Conn (s:List WkR):Str->Str->Prop where
 | refl (k:Str):Conn s k k
 | step {a b c:Str} (h:Conn s a b) (hc:c∈nxtW s b):Conn s a c
theorem Conn.trans {s:List WkR}{a b c:Str}(h1:Conn s a b)(h2:Conn s b c):Conn s a c:=by
 induction h2 with
 | refl=>exact h1
 | step _ hc ih=>exact ih.step hc
theorem Conn.symm {s:List WkR}{a b:Str}(h:Conn s a b):Conn s b a:=by
 induction h with
 | refl=>exact .refl _
 | step _ hc ih=>exact (Conn.step (.refl _) (ZQC.1 hc)).trans ih
theorem ZEA {s:List WkR}{k z:Str}(h:z∈nxtW s k):z∈nodW s:=by
 unfold nodW;refine List.mem_append_left _ (List.mem_append_left _ (ZCG.2 ?_))
 rcases ZDC.1 h with q|q
 ·exact⟨_,q,.inr rfl⟩
 ·exact⟨_,q,.inl rfl⟩
theorem Conn.nod {s:List WkR}{a b:Str}(h:Conn s a b)(ha:a∈nodW s):b∈nodW s:=by
 induction h with
 | refl=>exact ha
 | step _ hc _=>exact ZEA hc
theorem ZIp {v:Str}:∀(l:List Str)(Q:List QE),∀z∈l,z∈(l.foldl (addQ v) Q).map Prod.fst
 | [],_,_,h=>nomatch h
 | y::l,Q,z,h=>by
  rw[List.foldl_cons]
  rcases List.mem_cons.1 h with rfl|h
  ·obtain⟨R,e⟩:=ZGX v l (addQ v Q z)
   rw[e,List.map_append];refine List.mem_append_left _ ?_;unfold addQ
   split
   ·assumption
   ·rw[List.map_append];exact List.mem_append_right _ (by simp)
  ·exact ZIp l _ z h
theorem ZNE (nxt:Str->List Str)(a:Str):∀i j e,j<i->(bfsQ nxt a i)[j]?=some e->∀z∈nxt e.1,z∈(bfsQ nxt a i).map Prod.fst
 | 0,_,_,h,_,_,_=>absurd h (Nat.not_lt_zero _)
 | i+1,j,e,h,hj,z,hz=>by
  obtain⟨R,hR⟩:=ZIr nxt a i (i+1) (Nat.le_succ i)
  rcases Nat.lt_or_ge j (bfsQ nxt a i).length with q|q
  ·have hj0:(bfsQ nxt a i)[j]?=some e:=by rw[hR,List.getElem?_append_left q] at hj;exact hj
   rcases Nat.lt_or_ge j i with q2|q2
   ·have:=ZNE nxt a i j e q2 hj0 z hz
    rw[hR,List.map_append];exact List.mem_append_left _ this
   ·obtain rfl:j=i:=by omega
    rw[bfsQ,hj0];exact ZIp _ _ z hz
  ·rcases Nat.lt_or_ge i (bfsQ nxt a i).length with q2|q2
   ·omega
   ·rw[ZLh q2 (i+1) (Nat.le_succ i)] at hj
    rw[List.getElem?_eq_none q] at hj;cases hj
def ZL2 (s:List WkR)(k:Str):List Str:=(bfsQ (nxtW s) k (nodW s).length).map Prod.fst
theorem ZSX {s:List WkR}{k:Str}(hk:k∈nodW s)(i:Nat):(bfsQ (nxtW s) k i).length<=(nodW s).length:=by
 have:=ZBY (QOK.bfs (nxtW s) k i).nd (m:=nodW s) fun z hz=>by
  obtain⟨e,he,rfl⟩:=List.mem_map.1 hz;exact ZP7 (N:=fun z=>z∈nodW s) hk (fun v _ z hz=>ZEA hz) i e he
 rwa [List.length_map] at this
theorem ZKa {s:List WkR}{k v:Str}(hv:Conn s k v):∀(l:List Str){Q:List QE},(∀z∈l,z∈nxtW s v)->(∀e∈Q,Conn s k e.1)->∀e∈l.foldl (addQ v) Q,Conn s k e.1
 | [],_,_,h=>h
 | z::l,Q,hl,h=>by
  rw[List.foldl_cons];refine ZKa hv l (fun z hz=>hl z (List.mem_cons_of_mem _ hz)) fun e he=>?_;unfold addQ at he
  split at he
  ·exact h e he
  ·rcases List.mem_append.1 he with he|he
   ·exact h e he
   ·rw[List.mem_singleton.1 he];exact hv.step (hl z List.mem_cons_self)
theorem ZNL (s:List WkR)(k:Str):∀i,∀e∈bfsQ (nxtW s) k i,Conn s k e.1
 | 0,e,he=>by
  have:e=(k,[]):=by simpa [bfsQ] using he
  rw[this];exact .refl _
 | i+1,e,he=>by
  have h:=ZNL s k i;unfold bfsQ at he
  split at he
  ·exact h e he
  ·rename_i e0 he0
   exact ZKa (h e0 (List.mem_of_getElem? he0)) _ (fun _ h=>h) h e he
theorem ZKN {s:List WkR}{k z:Str}(hk:k∈nodW s):z∈ZL2 s k ↔ Conn s k z:=by
 unfold ZL2
 constructor
 ·intro h
  obtain⟨e,he,rfl⟩:=List.mem_map.1 h;exact ZNL s k _ e he
 ·intro h
  induction h with
  | refl =>
   have:=(QOK.bfs (nxtW s) k (nodW s).length).hd;exact List.mem_map.2 ⟨_,List.mem_of_getElem? this,rfl⟩
  | step _ hc ih =>
   obtain⟨e,he,rfl⟩:=List.mem_map.1 ih;obtain⟨j,hj,rfl⟩:=List.getElem_of_mem he;have hjl:=ZSX hk (nodW s).length;exact ZNE (nxtW s) k _ j _ (by omega) (List.getElem?_eq_getElem hj) _ hc
def repW (s:List WkR)(k:Str):Str:=(mrgU ltB (ZL2 s k)).headD []
theorem ZFU {s:List WkR}{k:Str}(hk:k∈nodW s):Conn s k (repW s k)/\∀z,Conn s k z->¬ltB z (repW s k):=by
 have hup:=ZCr ZAR (ZL2 s k);have hm:∀z,z∈mrgU ltB (ZL2 s k) ↔ Conn s k z:=fun z=>by rw[ZAz ZAR,ZKN hk]
 unfold repW
 cases hq:mrgU ltB (ZL2 s k) with
 | nil =>
  have:=(hm k).2 (.refl k);rw[hq] at this;cases this
 | cons y l =>
  rw[hq] at hup hm;refine⟨(hm y).1 List.mem_cons_self,fun z hz hlt=>?_⟩
  rcases List.mem_cons.1 ((hm z).2 hz) with rfl|h
  ·exact ZAR.irr _ hlt
  ·exact ZAR.irr _ (ZAR.tr hlt ((List.pairwise_cons.1 hup).1 z h))
theorem ZMJ {s:List WkR}{k r:Str}(hk:k∈nodW s)(h1:Conn s k r)(h2:∀z,Conn s k z->¬ltB z r):r=repW s k:=by
 obtain⟨g1,g2⟩:=ZFU hk
 rcases ZAR.tri r (repW s k) with q|q|q
 ·exact absurd q (g2 r h1)
 ·exact q
 ·exact absurd q (h2 _ g1)
theorem ZId {s:List WkR}{a b:Str}(ha:a∈nodW s)(hb:b∈nodW s):repW s a=repW s b ↔ Conn s a b:=by
 obtain⟨g1,g2⟩:=ZFU ha;obtain⟨k1,k2⟩:=ZFU hb
 constructor
 ·intro e
  rw[e] at g1;exact g1.trans k1.symm
 ·intro h
  exact ZMJ hb (h.symm.trans g1) fun z hz=>g2 z (h.trans hz)
structure UF (N:List Str)(M:Str->Option Str)(r:Str->Str):Prop where
 no:∀k,M k=none->r k=k
 same:∀k,M k=some k->r k=k
 up:∀k u,M k=some u->u≠k->ltB u k/\u∈N/\r u=r k
 idem:∀k,r (r k)=r k
 root:∀k,M (r k)=none\/M (r k)=some (r k)
 nod:∀k∈N,r k∈N
theorem UF.init (N:List Str):UF N (fun _=>none) id:=⟨fun _ _=>rfl,fun _ _=>rfl,(fun _ _ h=>nomatch h),fun _=>rfl,fun _=>.inl rfl,fun _ h=>h⟩
def uniR (r:Str->Str)(x y k:Str):Str:=if r k=maxB (r x) (r y) then minB (r x) (r y) else r k
theorem ZFh (a b:Str):(minB a b=a/\maxB a b=b)\/(minB a b=b/\maxB a b=a):=by
 unfold minB maxB
 split
 ·exact .inr ⟨rfl,rfl⟩
 ·exact .inl ⟨rfl,rfl⟩
theorem ZSP {a b:Str}(h:minB a b≠maxB a b):ltB (minB a b) (maxB a b):=by
 unfold minB maxB at *
 split at h
 ·rename_i q
  simp only[q,if_true]
 ·rename_i q
  simp only[q,if_false] at h ⊢
  rcases ZAR.tri a b with g|g|g
  ·exact g
  ·exact absurd g h
  ·exact absurd g q
theorem UF.uni {N:List Str}{M:Str->Option Str}{r:Str->Str}(h:UF N M r){x y:Str}(hx:x∈N)(hy:y∈N) :
  UF N (fun k=>if k=maxB (r x) (r y) then some (minB (r x) (r y)) else M k) (uniR r x y):=by
 have hrx:=h.idem x;have hry:=h.idem y;have hnx:=h.nod x hx;have hny:=h.nod y hy;have hM1:=h.root x;have hM2:=h.root y;have hmin:r (minB (r x) (r y))=minB (r x) (r y):=by
  rcases ZFh (r x) (r y) with ⟨e,-⟩|⟨e,-⟩ <;> rw[e] <;> assumption
 have hmax:r (maxB (r x) (r y))=maxB (r x) (r y):=by
  rcases ZFh (r x) (r y) with ⟨-,e⟩|⟨-,e⟩ <;> rw[e] <;> assumption
 have hnm:minB (r x) (r y)∈N:=by
  rcases ZFh (r x) (r y) with ⟨e,-⟩|⟨e,-⟩ <;> rw[e] <;> assumption
 have hMm:M (minB (r x) (r y))=none\/M (minB (r x) (r y))=some (minB (r x) (r y)):=by
  rcases ZFh (r x) (r y) with ⟨e,-⟩|⟨e,-⟩ <;> rw[e] <;> assumption
 have hlt:=@ZSP (r x) (r y);unfold uniR;generalize minB (r x) (r y)=n at *;generalize maxB (r x) (r y)=m at *
 have hrn:∀k,(if r (if r k=m then n else r k)=m then n else r (if r k=m then n else r k))=if r k=m then n else r k:=fun k=>by
  by_cases e:r k=m
  ·rw[if_pos e,hmin]
   by_cases e2:n=m
   ·rw[if_pos e2]
   ·rw[if_neg e2]
  ·rw[if_neg e,h.idem,if_neg e]
 constructor
 ·intro k hk
  by_cases e:k=m
  ·rw[if_pos e] at hk;cases hk
  ·rw[if_neg e] at hk
   have:=h.no k hk;rw[this,if_neg e]
 ·intro k hk
  by_cases e:k=m
  ·rw[if_pos e] at hk
   have e2:=Option.some.inj hk;have:r k=m:=by rw[e];exact hmax
   rw[if_pos this];exact e2
  ·rw[if_neg e] at hk
   have:=h.same k hk;rw[this,if_neg e]
 ·intro k u hk hne
  by_cases e:k=m
  ·rw[if_pos e] at hk
   have e2:=Option.some.inj hk;subst e2;have hnm':n≠m:=fun q=>hne (q.trans e.symm);refine⟨by rw[e];exact hlt hnm',hnm,?_⟩;have:r k=m:=by rw[e];exact hmax
   rw[if_pos this,hmin,if_neg hnm']
  ·rw[if_neg e] at hk
   obtain⟨q1,q2,q3⟩:=h.up k u hk hne;exact⟨q1,q2,by rw[q3]⟩
 ·exact hrn
 ·intro k
  by_cases e:r k=m
  ·rw[if_pos e]
   by_cases e2:n=m
   ·rw[if_pos e2];exact .inr rfl
   ·rw[if_neg e2];exact hMm
  ·rw[if_neg e,if_neg e]
   exact h.root k
 ·intro k hk
  split
  ·exact hnm
  ·exact h.nod k hk
theorem ZQt {r:Str->Str}(hi:∀k,r (r k)=r k)(x y:Str):uniR r x y x=uniR r x y y:=by
 unfold uniR
 rcases ZFh (r x) (r y) with ⟨e1,e2⟩|⟨e1,e2⟩
 ·rw[e1,e2]
  simp
 ·rw[e1,e2]
  simp
theorem ZKL {r:Str->Str}{x y a b:Str}(h:r a=r b):uniR r x y a=uniR r x y b:=by
 unfold uniR;rw[h]
theorem ZQM {s:List WkR}{r:Str->Str}{x y:Str}(h:∀k,Conn s k (r k))(hxy:Conn s x y)(k:Str):Conn s k (uniR r x y k):=by
 unfold uniR
 by_cases e:r k=maxB (r x) (r y)
 ·rw[if_pos e]
  have hk:=h k;rw[e] at hk
  rcases ZFh (r x) (r y) with ⟨e1,e2⟩|⟨e1,e2⟩
  ·rw[e1]
   rw[e2] at hk;exact hk.trans ((h y).symm.trans (hxy.symm.trans (h x)))
  ·rw[e1]
   rw[e2] at hk;exact hk.trans ((h x).symm.trans (hxy.trans (h y)))
 ·rw[if_neg e];exact h k
theorem ZQE {N:List Str}{u k:Str}(q1:ltB u k)(q2:u∈N):(N.filter fun z=>decide (ltB z u)).length<(N.filter fun z=>decide (ltB z k)).length:=by
 induction N with
 | nil=>cases q2
 | cons x N ih =>
  have hle:(N.filter fun z=>decide (ltB z u)).length<=(N.filter fun z=>decide (ltB z k)).length:=by
   clear ih q2
   induction N with
   | nil=>exact Nat.le_refl _
   | cons y N ih =>
    rw[List.filter_cons,List.filter_cons]
    by_cases h1:ltB y u
    ·rw[if_pos (decide_eq_true h1),if_pos (decide_eq_true (ZAR.tr h1 q1))]
     simpa using ih
    ·rw[if_neg (by simpa using h1)]
     split
     ·rw[List.length_cons];omega
     ·exact ih
  rw[List.filter_cons,List.filter_cons]
  rcases List.mem_cons.1 q2 with rfl|q2
  ·rw[if_neg (by simp),if_pos (decide_eq_true q1),List.length_cons]
   omega
  ·have:=ih q2
   by_cases h1:ltB x u
   ·rw[if_pos (decide_eq_true h1),if_pos (decide_eq_true (ZAR.tr h1 q1)),List.length_cons,List.length_cons];omega
   ·rw[if_neg (by simpa using h1)]
    split
    ·rw[List.length_cons];omega
    ·exact this
theorem UF.done {s:List WkR}{M:Str->Option Str}{r:Str->Str}(h:UF (nodW s) M r)(hc:∀k,Conn s k (r k))(ht:∀k∈nodW s,∀z∈nxtW s k,r z=r k){k:Str}(hk:k∈nodW s):r k=repW s k:=by
 have hle:∀n k,((nodW s).filter fun z=>decide (ltB z k)).length<=n->¬ltB k (r k):=by
  intro n
  induction n with
  | zero =>
   intro k hn
   cases hM:M k with
   | none=>rw[h.no k hM];exact ZAR.irr k
   | some u =>
    by_cases e:u=k
    ·rw[h.same k (e ▸ hM)];exact ZAR.irr k
    ·obtain⟨q1,q2,-⟩:=h.up k u hM e
     have:u∈(nodW s).filter fun z=>decide (ltB z k):=List.mem_filter.2 ⟨q2,decide_eq_true q1⟩;have:=List.length_pos_of_mem this;omega
  | succ n ih =>
   intro k hn
   cases hM:M k with
   | none=>rw[h.no k hM];exact ZAR.irr k
   | some u =>
    by_cases e:u=k
    ·rw[h.same k (e ▸ hM)];exact ZAR.irr k
    ·obtain⟨q1,q2,q3⟩:=h.up k u hM e
     have hu:=ih u (by
      have hsub:((nodW s).filter fun z=>decide (ltB z u)).length<((nodW s).filter fun z=>decide (ltB z k)).length:=ZQE q1 q2;omega)
     rw[q3] at hu;intro hlt;exact hu (ZAR.tr q1 hlt)
 have hcr:∀z,Conn s k z->r z=r k:=fun z hz=>by
  have:∀a b,Conn s a b->a∈nodW s->r b=r a:=fun a b hab=>by
   induction hab with
   | refl=>intro _;rfl
   | step hab hc ih =>
    intro ha;rw[ht _ (hab.nod ha) _ hc,ih ha]
  exact this k z hz hk
 refine ZMJ hk (hc k) fun z hz hlt=>?_;have:=hcr z hz;exact hle _ z (Nat.le_refl _) (by rw[this];exact hlt)
def titN (o:Option WkR)(x:WkR):Option WkR:=match o with
 | none=>some x
 | some y=>if y.day<x.day then some x else some y
def titS (r:Str->Str)(p:List WkR)(k:Str):Option WkR:=p.foldl (fun o x=>if r x.a=k then titN o x else o) none
theorem ZE3 (r:Str->Str)(p:List WkR)(x:WkR)(k:Str):titS r (p++[x]) k=if r x.a=k then titN (titS r p k) x else titS r p k:=by
 unfold titS;rw[List.foldl_append];rfl
def titB (r:Str->Str)(p:List WkR)(k:Str):Str:=((titS r p k).map WkR.b).getD []
def ZBL (k:Str):Bool:=decide (k.take 1=[35])
def ZGr (l:List Str):List Str:=l.foldl (fun R q=>if q∈R then R else R++[q]) []
theorem ZFy (l:List Str)(q:Str):ZGr (l++[q])=if q∈ZGr l then ZGr l else ZGr l++[q]:=by
 unfold ZGr;rw[List.foldl_append];rfl
theorem ZHR (l:List Str):(ZGr l).Nodup:=by
 induction l using ZFW with
 | h0=>simp[ZGr]
 | h1 l x ih =>
  rw[ZFy]
  split
  ·exact ih
  ·rename_i h
   rw[List.nodup_append];refine⟨ih,by simp,fun a ha b hb e=>h ?_⟩;rw[List.mem_singleton] at hb;rw[<-hb,<-e];exact ha
theorem ZDe {l:List Str}{q:Str}:q∈ZGr l ↔ q∈l:=by
 induction l using ZFW with
 | h0=>simp[ZGr]
 | h1 l x ih =>
  rw[ZFy,List.mem_append,List.mem_singleton]
  split
  ·rename_i h
   rw[ih]
   constructor
   ·exact .inl
   ·rintro (q2|rfl)
    ·exact q2
    ·exact ih.1 h
  ·rw[List.mem_append,List.mem_singleton,ih]
theorem ZKd (l:List Str):(ZGr l).length<=l.length:=ZBY (ZHR l) fun _ h=>ZDe.1 h
abbrev WkO:=List Str×List Str×Str
def ZA0 (r tit:Str->Str)(p1 p2:List Str)(q:Str):WkO :=
 ((p1.filter fun k=>!ZBL k).filter (fun k=>decide (r k=q)),((p2.filter ZBL).filter fun k=>decide (r k=q)).map (List.drop 1),tit q)
def ZBJ (r:Str->Str)(p1:List Str):List Str:=ZGr ((p1.filter fun k=>!ZBL k).map r)
def ZBH (r tit:Str->Str)(p1 p2:List Str):List WkO:=(ZBJ r p1).map (ZA0 r tit p1 p2)
theorem ZHV (r:Str->Str)(p:List Str):(ZBJ r p).Nodup:=ZHR _
theorem map_set {R:List Str}{q:Str}{F F':Str->WkO}(hn:R.Nodup)(hq:q∈R)(h:∀z,z≠q->F' z=F z):R.map F'=(R.map F).set (R.idxOf q) (F' q):=by
 apply List.ext_getElem?;intro t;rw[List.getElem?_set,List.getElem?_map,List.getElem?_map,List.length_map];have hlt:=List.idxOf_lt_length_of_mem hq
 by_cases e:R.idxOf q=t
 ·rw[if_pos e,if_pos (by omega),<-e,List.getElem?_eq_getElem hlt,List.getElem_idxOf];rfl
 ·rw[if_neg e]
  cases hz:R[t]? with
  | none=>rfl
  | some z =>
   have hne:z≠q:=fun q2=>by
    obtain⟨h1,h2⟩:=List.getElem?_eq_some_iff.1 hz;have:R[R.idxOf q]=R[t]:=by rw[List.getElem_idxOf,h2,q2]
    exact e ((List.getElem_inj hn).1 this)
   simp[h z hne]
theorem ZD0 {r:Str->Str}{p:List Str}{k:Str}(hk:ZBL k=false):ZBJ r (p++[k])=if r k∈ZBJ r p then ZBJ r p else ZBJ r p++[r k]:=by
 unfold ZBJ;rw[List.filter_append,List.map_append];have:[k].filter (fun k=>!ZBL k)=[k]:=by simp[hk]
 rw[this];exact ZFy _ _
theorem ZIV {r:Str->Str}{p:List Str}{k:Str}(hk:ZBL k=true):ZBJ r (p++[k])=ZBJ r p:=by
 unfold ZBJ;rw[List.filter_append];have:[k].filter (fun k=>!ZBL k)=[]:=by simp[hk]
 rw[this,List.append_nil]
theorem ZLj {r tit:Str->Str}{p p2:List Str}{k:Str}(hk:ZBL k=true):ZA0 r tit (p++[k]) p2=ZA0 r tit p p2:=by
 funext q
 unfold ZA0;rw[List.filter_append];have:[k].filter (fun k=>!ZBL k)=[]:=by simp[hk]
 rw[this,List.append_nil]
theorem ZEE {r tit:Str->Str}{p p2:List Str}{k:Str}(hk:ZBL k=false)(q:Str):ZA0 r tit (p++[k]) p2 q=((ZA0 r tit p p2 q).1++if r k=q then [k] else [],(ZA0 r tit p p2 q).2):=by
 unfold ZA0;rw[List.filter_append,List.filter_append];have:[k].filter (fun k=>!ZBL k)=[k]:=by simp[hk]
 rw[this]
 by_cases e:r k=q <;> simp[e]
theorem ZLM {r tit:Str->Str}{p1 p:List Str}{k:Str}(hk:ZBL k=false):ZA0 r tit p1 (p++[k])=ZA0 r tit p1 p:=by
 funext q
 unfold ZA0;rw[List.filter_append (p:=ZBL)];have:[k].filter ZBL=[]:=by simp[hk]
 rw[this,List.append_nil]
theorem ZIS {r tit:Str->Str}{p1 p:List Str}{k:Str}(hk:ZBL k=true)(q:Str):ZA0 r tit p1 (p++[k]) q=((ZA0 r tit p1 p q).1,(ZA0 r tit p1 p q).2.1++(if r k=q then [k.drop 1] else []),(ZA0 r tit p1 p q).2.2):=by
 unfold ZA0;rw[List.filter_append (p:=ZBL),List.filter_append];have:[k].filter ZBL=[k]:=by simp[hk]
 rw[this]
 by_cases e:r k=q <;> simp[e]
theorem ZOD {r tit:Str->Str}{p p2:List Str}{k:Str}(hk:ZBL k=false)(hq:r k∈ZBJ r p):ZBH r tit (p++[k]) p2=(ZBH r tit p p2).set ((ZBJ r p).idxOf (r k)) ((ZA0 r tit p p2 (r k)).1++[k],(ZA0 r tit p p2 (r k)).2):=by
 unfold ZBH;rw[ZD0 hk,if_pos hq];rw[map_set (F:=ZA0 r tit p p2) (F':=ZA0 r tit (p++[k]) p2) (ZHV _ _) hq fun z hz=>by rw[ZEE hk,if_neg (Ne.symm hz),List.append_nil]];rw[ZEE hk,if_pos rfl]
theorem ZNX {r tit:Str->Str}{p:List Str}{k:Str}(hk:ZBL k=false)(hq:r k ∉ ZBJ r p):ZBH r tit (p++[k]) []=ZBH r tit p []++[([k],[],tit (r k))]:=by
 unfold ZBH;rw[ZD0 hk,if_neg hq,List.map_append,List.map_cons,List.map_nil]
 congr 1
 ·apply List.map_congr_left
  intro z hz;rw[ZEE hk,if_neg (fun e:r k=z=>hq (by rw[e];exact hz)),List.append_nil]
 ·rw[ZEE hk,if_pos rfl]
  have:(ZA0 r tit p [] (r k)).1=[]:=by
   unfold ZA0;simp only;rw[List.filter_eq_nil_iff];intro z hz e;exact hq (ZDe.2 (List.mem_map.2 ⟨z,hz,of_decide_eq_true e⟩))
  rw[this];rfl
theorem ZLr {r tit:Str->Str}{p1 p:List Str}{k:Str}(hk:ZBL k=true)(hq:r k∈ZBJ r p1):ZBH r tit p1 (p++[k])=(ZBH r tit p1 p).set ((ZBJ r p1).idxOf (r k)) ((ZA0 r tit p1 p (r k)).1,(ZA0 r tit p1 p (r k)).2.1++[k.drop 1],(ZA0 r tit p1 p (r k)).2.2):=by
 unfold ZBH;rw[map_set (F:=ZA0 r tit p1 p) (F':=ZA0 r tit p1 (p++[k])) (ZHV _ _) hq fun z hz=>by rw[ZIS hk,if_neg (Ne.symm hz),List.append_nil]];rw[ZIS hk,if_pos rfl]
theorem ZHH {r tit:Str->Str}{p1 p2:List Str}{q:Str}(hq:q∈ZBJ r p1):(ZBH r tit p1 p2)[(ZBJ r p1).idxOf q]?=some (ZA0 r tit p1 p2 q):=by
 unfold ZBH;rw[List.getElem?_map,List.getElem?_eq_getElem (List.idxOf_lt_length_of_mem hq),List.getElem_idxOf];rfl
def ZAN (s:List WkR):List Str:=mrgU ltB (nodW s)
def ZAp (s:List WkR):List WkO:=ZBH (repW s) (titB (repW s) (ofK [4] s)) (ZAN s) (ZAN s)
def pthQ (Q:List QE)(s:Str):List Str:=(ZBn Q (Q.length+1) s).reverse
def ZIj (Q:List QE):List (List Str):=Q.map fun e=>pthQ Q e.1
theorem ZPB (Q:List QE):(ZIj Q).length=Q.length:=by unfold ZIj;rw[List.length_map]
theorem ZSb {a:Str}(ha:a≠[]):ZIj [(a,[])]=[[a]]:=by
 show [(ZBn [(a,[])] (1+1) a).reverse]=[[a]]
 have hp:prdQ [(a,[])] a=some []:=by simp[prdQ]
 rw[ZBn,if_neg ha,hp]
 show [(a::ZBn [(a,[])] 1 []).reverse]=_
 rw[ZBn,if_pos rfl]
 rfl
theorem ZM5 {a:Str}{Q R:List QE}(h:QOK a Q)(h2:QOK a (Q++R)){e:QE}(he:e∈Q):pthQ (Q++R) e.1=pthQ Q e.1:=by
 obtain⟨j,hj,rfl⟩:=List.getElem_of_mem he;have hj1:Q[j]?=some Q[j]:=List.getElem?_eq_getElem hj;unfold pthQ;rw[ZFw h h2 hj1,ZIF h hj1 (m:=Q.length+1) (by rw[List.length_append];omega) (by omega)]
theorem ZSv {a v z:Str}{Q:List QE}(h:QOK a Q)(hv:v∈Q.map Prod.fst)(hz:z ∉ Q.map Prod.fst)(hz0:z≠[]):ZIj (addQ v Q z)=ZIj Q++[pthQ Q v++[z]]:=by
 have h2:=h.add (z:=z) hv;have e:addQ v Q z=Q++[(z,v)]:=by unfold addQ;rw[if_neg hz]
 rw[e] at h2 ⊢;obtain⟨ev,hev,rfl⟩:=List.mem_map.1 hv;unfold ZIj;rw[List.map_append]
 congr 1
 ·exact List.map_congr_left fun e he=>ZM5 h h2 he
 ·rw[List.map_cons,List.map_nil]
  congr 1
  have hat:(Q++[(z,ev.1)])[Q.length]?=some (z,ev.1):=by simp
  have hp:=ZFt h2 hat;obtain⟨j,hj,rfl⟩:=List.getElem_of_mem hev;have hj1:Q[j]?=some Q[j]:=List.getElem?_eq_getElem hj;unfold pthQ;rw[ZBn,if_neg hz0,hp,List.reverse_cons]
  congr 2
  rw[List.length_append,List.length_singleton];exact ZFw h h2 hj1
theorem ZPd {v z:Str}{Q:List QE}(hz:z∈Q.map Prod.fst):addQ v Q z=Q:=by unfold addQ;rw[if_pos hz]
theorem ZMX {v z:Str}{Q:List QE}(hz:z ∉ Q.map Prod.fst):(addQ v Q z).map Prod.fst=Q.map Prod.fst++[z]:=by unfold addQ;rw[if_neg hz,List.map_append];rfl
theorem ZJE {v a:Str}:∀(l:List Str){Q:List QE},(∀z∈l,z≠[])->QOK a Q->v∈Q.map Prod.fst →
  ∃T:List Str,l.foldl (addQ v) Q=Q++T.map (fun z=>(z,v))/\QOK a (l.foldl (addQ v) Q)/\(∀z∈T,z∈l/\z ∉ Q.map Prod.fst)/\(∀e∈Q,pthQ (l.foldl (addQ v) Q) e.1=pthQ Q e.1)/\∀z∈T,pthQ (l.foldl (addQ v) Q) z=pthQ Q v++[z]
 | [],Q,_,h,_=>⟨[],by simp,h,(fun _ h=>nomatch h),fun _ _=>rfl,fun _ h=>nomatch h⟩
 | z::l,Q,hn,h,hv=>by
  rw[List.foldl_cons]
  by_cases hz:z∈Q.map Prod.fst
  ·rw[ZPd hz]
   obtain⟨T,h1,h2,h3,h4,h5⟩:=ZJE l (fun z hz=>hn z (List.mem_cons_of_mem _ hz)) h hv;exact⟨T,h1,h2,fun z hz=>⟨List.mem_cons_of_mem _ (h3 z hz).1,(h3 z hz).2⟩,h4,h5⟩
  ·have hz0:z≠[]:=hn z List.mem_cons_self
   have hp:=ZSv h hv hz hz0;have hq:=h.add (z:=z) hv;have e1:addQ v Q z=Q++[(z,v)]:=by unfold addQ;rw[if_neg hz]
   have hv1:v∈(addQ v Q z).map Prod.fst:=by rw[ZMX hz];exact List.mem_append_left _ hv
   have hold:∀e∈Q,pthQ (addQ v Q z) e.1=pthQ Q e.1:=fun e he=>by
    rw[e1] at hq ⊢;exact ZM5 h hq he
   have hnew:pthQ (addQ v Q z) z=pthQ Q v++[z]:=by
    have h1:ZIj (addQ v Q z)=Q.map (fun e=>pthQ (addQ v Q z) e.1)++[pthQ (addQ v Q z) z]:=by
     unfold ZIj;rw[e1,List.map_append];rfl
    rw[hp] at h1;have h2:=List.append_inj_right h1 (by rw[ZPB,List.length_map]);exact (List.cons.inj h2).1.symm
   obtain⟨ev,hev,rfl⟩:=List.mem_map.1 hv;obtain⟨T,h1,h2,h3,h4,h5⟩:=ZJE l (fun z hz=>hn z (List.mem_cons_of_mem _ hz)) hq hv1;refine⟨z::T,by rw[h1,e1];simp,h2,fun y hy=>?_,fun e he=>?_,fun y hy=>?_⟩
   ·rcases List.mem_cons.1 hy with rfl|hy
    ·exact⟨List.mem_cons_self,hz⟩
    ·obtain⟨g1,g2⟩:=h3 y hy
     exact⟨List.mem_cons_of_mem _ g1,fun q=>g2 (by rw[ZMX hz];exact List.mem_append_left _ q)⟩
   ·rw[h4 e (by rw[e1];exact List.mem_append_left _ he),hold e he]
   ·rcases List.mem_cons.1 hy with rfl|hy
    ·rw[h4 (y,ev.1) (by rw[e1];simp),hnew]
    ·rw[h5 y hy,hold ev hev]
def chnP (nxt:Str->List Str)(p:List Str):Prop:=∀i x y,p[i]?=some x->p[i+1]?=some y->y∈nxt x
theorem ZPC {nxt:Str->List Str}{r:List Str}{v z:Str}(h:chnP nxt (r++[v]))(hz:z∈nxt v):chnP nxt (r++[v]++[z]):=fun i x y hx hy=>by
 rcases Nat.lt_or_ge (i+1) (r++[v]).length with q|q
 ·rw[List.getElem?_append_left q] at hy
  rw[List.getElem?_append_left (by omega)] at hx;exact h i x y hx hy
 ·have hlt:=(List.getElem?_eq_some_iff.1 hy).1
  simp only[List.length_append,List.length_cons,List.length_nil] at q hlt;obtain rfl:i=r.length:=by omega
  have e1:(r++[v]++[z])[r.length]?=some v:=by simp
  have e2:(r++[v]++[z])[r.length+1]?=some z:=by simp
  rw[e1] at hx;rw[e2] at hy;cases hx;cases hy;exact hz
structure BInv (nxt:Str->List Str)(a:Str)(i:Nat)(Q:List QE):Prop where
 ok:QOK a Q
 one:pthQ Q a=[a]
 path:∀e∈Q,(pthQ Q e.1)[0]?=some a/\(∃r,pthQ Q e.1=r++[e.1])/\chnP nxt (pthQ Q e.1)/\(pthQ Q e.1).Nodup/\∀z∈pthQ Q e.1,z∈Q.map Prod.fst
 up:Q.Pairwise fun e e'=>(pthQ Q e.1).length<=(pthQ Q e'.1).length
 near:∀e0,Q[i]?=some e0->∀e∈Q,(pthQ Q e.1).length<=(pthQ Q e0.1).length+1
 done:∀j e,j<i->Q[j]?=some e->∀z∈nxt e.1,z∈Q.map Prod.fst/\(pthQ Q z).length<=(pthQ Q e.1).length+1
theorem BInv.bfs {nxt:Str->List Str}{a:Str}(ha:a≠[])(hn:∀v,∀z∈nxt v,z≠[]):∀i,BInv nxt a i (bfsQ nxt a i)
 | 0=>by
  have h1:pthQ [(a,[])] a=[a]:=by
   have:=ZSb ha;unfold ZIj at this
   simpa using this
  refine⟨QOK.one a,h1,fun e he=>?_,by simp[bfsQ],fun e0 _ e he=>?_,fun _ _ h=>absurd h (Nat.not_lt_zero _)⟩
  ·have:e=(a,[]):=by simpa [bfsQ] using he
   subst this
   show (pthQ [(a,[])] a)[0]?=some a/\_
   rw[show pthQ (bfsQ nxt a 0) (a,([]:Str)).1=[a] from h1,h1];exact⟨rfl,⟨[],rfl⟩,fun i x y hx hy=>by simp at hy,by simp,by simp[bfsQ]⟩
  ·have:e=(a,[]):=by simpa [bfsQ] using he
   subst this;rw[show pthQ (bfsQ nxt a 0) (a,([]:Str)).1=[a] from h1];simp
 | i+1=>by
  have ih:=BInv.bfs ha hn i;rw[bfsQ];generalize bfsQ nxt a i=Q at ih ⊢
  split
  ·rename_i hi
   refine⟨ih.ok,ih.one,ih.path,ih.up,fun e0 he0=>?_,fun j e hj he=>?_⟩
   ·rw[List.getElem?_eq_none_iff] at hi
    have:=(List.getElem?_eq_some_iff.1 he0).1;omega
   ·rw[List.getElem?_eq_none_iff] at hi
    have:=(List.getElem?_eq_some_iff.1 he).1;exact ih.done j e (by omega) he
  ·rename_i e0 he0
   have hm0:e0∈Q:=List.mem_of_getElem? he0;have hl0:=(List.getElem?_eq_some_iff.1 he0).1;have hall:=ZIp (v:=e0.1) (nxt e0.1) Q;obtain⟨T,h1,h2,h3,h4,h5⟩:=ZJE (nxt e0.1) (fun z hz=>hn _ z hz) ih.ok (List.mem_map.2 ⟨e0,hm0,rfl⟩);unfold ZO5;generalize (nxt e0.1).foldl (addQ e0.1) Q=Q' at h1 h2 h4 h5 hall ⊢;have hnear:=ih.near e0 he0;have ha0:(a,([]:Str))∈Q:=List.mem_of_getElem? ih.ok.hd;have hmem:∀e,e∈Q' ↔ e∈Q\/∃z∈T,(z,e0.1)=e:=fun e=>by rw[h1,List.mem_append,List.mem_map]
   have hlast:=(ih.path e0 hm0).2.1;have hsub:∀z∈Q.map Prod.fst,z∈Q'.map Prod.fst:=fun z hz=>by rw[h1,List.map_append];exact List.mem_append_left _ hz
   have hlenN:∀z∈T,(pthQ Q' z).length=(pthQ Q e0.1).length+1:=fun z hz=>by rw[h5 z hz,List.length_append];rfl
   have hold:∀s∈Q.map Prod.fst,pthQ Q' s=pthQ Q s:=fun s hs=>by
    obtain⟨e,he,rfl⟩:=List.mem_map.1 hs;exact h4 e he
   have hle:∀e∈Q',(pthQ Q' e.1).length<=(pthQ Q e0.1).length+1:=fun e he=>by
    rcases (hmem e).1 he with he|⟨z,hz,rfl⟩
    ·rw[h4 e he];exact hnear e he
    ·exact Nat.le_of_eq (hlenN z hz)
   have hup:Q'.Pairwise fun e e'=>(pthQ Q' e.1).length<=(pthQ Q' e'.1).length:=by
    have hT:∀z∈T,(pthQ Q' z).length=(pthQ Q e0.1).length+1:=hlenN;rw[h1,List.pairwise_append];rw[h1] at h4 hT hle;refine⟨?_,?_,fun e he e' he'=>?_⟩
    ·exact (List.pairwise_iff_getElem.2 fun x y hx hy hxy=>by
      rw[h4 _ (List.getElem_mem hx),h4 _ (List.getElem_mem hy)];exact List.pairwise_iff_getElem.1 ih.up x y hx hy hxy)
    ·refine List.pairwise_map.2 (List.pairwise_iff_getElem.2 fun x y hx hy hxy=>?_)
     rw[hT _ (List.getElem_mem hx),hT _ (List.getElem_mem hy)];exact Nat.le_refl _
    ·obtain⟨z,hz,rfl⟩:=List.mem_map.1 he'
     rw[hT z hz];exact hle e (List.mem_append_left _ he)
   refine⟨h2,by rw[hold a (List.mem_map.2 ⟨_,ha0,rfl⟩)];exact ih.one,fun e he=>?_,hup,fun e1 he1 e he=>?_,fun j e hj he z hz=>?_⟩
   ·rcases (hmem e).1 he with he|⟨z,hz,rfl⟩
    ·rw[h4 e he]
     obtain⟨g1,g2,g3,g4,g5⟩:=ih.path e he;exact⟨g1,g2,g3,g4,fun z hz=>hsub z (g5 z hz)⟩
    ·simp only
     obtain⟨g1,⟨r,g2⟩,g3,g4,g5⟩:=ih.path e0 hm0;rw[h5 z hz];refine⟨?_,⟨_,rfl⟩,?_,?_,fun y hy=>?_⟩
     ·rw[List.getElem?_append_left (by rw[g2];simp)];exact g1
     ·rw[g2] at g3 ⊢
      exact ZPC g3 (h3 z hz).1
     ·rw[List.nodup_append]
      refine⟨g4,by simp,fun x hx y hy e=>?_⟩;rw[List.mem_singleton] at hy;subst hy;subst e;exact (h3 x hz).2 (g5 x hx)
     ·rcases List.mem_append.1 hy with hy|hy
      ·exact hsub y (g5 y hy)
      ·rw[List.mem_singleton] at hy
       subst hy;exact List.mem_map.2 ⟨(y,e0.1),(hmem _).2 (.inr ⟨y,hz,rfl⟩),rfl⟩
   ·have h6:=hle e he
    have hi1:=(List.getElem?_eq_some_iff.1 he1).1;have h7:(pthQ Q' e0.1).length<=(pthQ Q' e1.1).length:=by
     have hi0:Q'[i]?=some e0:=by rw[h1,List.getElem?_append_left hl0];exact he0
     have:=List.pairwise_iff_getElem.1 hup i (i+1) (by omega) hi1 (by omega)
     rwa [(List.getElem?_eq_some_iff.1 hi0).2,(List.getElem?_eq_some_iff.1 he1).2] at this
    rw[h4 e0 hm0] at h7;omega
   ·rcases Nat.lt_or_ge j i with q|q
    ·have hjl:j<Q.length:=by omega
     have hj0:Q[j]?=some e:=by rw[h1,List.getElem?_append_left hjl] at he;exact he
     obtain⟨g1,g2⟩:=ih.done j e q hj0 z hz;rw[hold z g1,h4 e (List.mem_of_getElem? hj0)];exact⟨hsub z g1,g2⟩
    ·obtain rfl:j=i:=by omega
     have e1:e=e0:=by
      rw[h1,List.getElem?_append_left hl0,he0] at he;exact (Option.some.inj he).symm
     subst e1;have hzQ:=hall z hz;refine⟨hzQ,?_⟩;rw[h4 e hm0];obtain⟨ez,hez,rfl⟩:=List.mem_map.1 hzQ;exact hle ez hez
theorem ZPL {s:List WkR}(hne:∀k∈nodW s,k≠[]){a b:Str}(ha:a∈nodW s)(hp:ZA3 (nxtW s) a b (nodW s).length≠[]) :
  (ZA3 (nxtW s) a b (nodW s).length)[0]?=some a/\(∃r,ZA3 (nxtW s) a b (nodW s).length=r++[b])/\chnP (nxtW s) (ZA3 (nxtW s) a b (nodW s).length)/\(ZA3 (nxtW s) a b (nodW s).length).Nodup/\b∈ZL2 s a:=by
 have hB:=BInv.bfs (hne a ha) (nxt:=nxtW s) (fun v z hz=>hne z (ZEA hz)) (nodW s).length
 by_cases hb:b∈(bfsQ (nxtW s) a (nodW s).length).map Prod.fst
 ·have e:ZA3 (nxtW s) a b (nodW s).length=pthQ (bfsQ (nxtW s) a (nodW s).length) b:=by unfold ZA3 pthQ;rw[if_pos hb]
  rw[e];obtain⟨eb,heb,rfl⟩:=List.mem_map.1 hb;obtain⟨h1,h2,h3,h4,-⟩:=hB.path eb heb;exact⟨h1,h2,h3,h4,hb⟩
 ·exact absurd (by unfold ZA3;rw[if_neg hb]) hp
theorem ZJ6 {s:List WkR}(hne:∀k∈nodW s,k≠[]){a b:Str}(ha:a∈nodW s):ZA3 (nxtW s) a b (nodW s).length≠[] ↔ Conn s a b:=by
 rw[<-ZKN ha];refine⟨fun h=>(ZPL hne ha h).2.2.2.2,fun hb0=>?_⟩;have hb:b∈(bfsQ (nxtW s) a (nodW s).length).map Prod.fst:=hb0;have hB:=BInv.bfs (hne a ha) (nxt:=nxtW s) (fun v z hz=>hne z (ZEA hz)) (nodW s).length;have e:ZA3 (nxtW s) a b (nodW s).length=pthQ (bfsQ (nxtW s) a (nodW s).length) b:=by unfold ZA3 pthQ;rw[if_pos hb]
 rw[e];obtain⟨eb,heb,rfl⟩:=List.mem_map.1 hb;obtain⟨-,⟨r,h2⟩,-⟩:=hB.path eb heb;rw[h2];simp
theorem ZST (s:List WkR):(ZAN s).Pairwise ltB:=ZCr ZAR _
theorem ZFG {s:List WkR}{k:Str}:k∈ZAN s ↔ k∈nodW s:=ZAz ZAR
section
variable {s:List WkR}
theorem ZEw {i:Nat}{w:WkO}(h:(ZAp s)[i]?=some w):∃q,(ZBJ (repW s) (ZAN s))[i]?=some q/\w=ZA0 (repW s) (titB (repW s) (ofK [4] s)) (ZAN s) (ZAN s) q:=by
 unfold ZAp ZBH at h;rw[List.getElem?_map] at h
 cases hq:(ZBJ (repW s) (ZAN s))[i]? with
 | none=>rw[hq] at h;cases h
 | some q=>rw[hq] at h;exact⟨q,rfl,(Option.some.inj h).symm⟩
theorem ZDf {q k:Str}:k∈(ZA0 (repW s) (titB (repW s) (ofK [4] s)) (ZAN s) (ZAN s) q).1 ↔ k∈nodW s/\ZBL k=false/\repW s k=q:=by
 unfold ZA0;simp only[List.mem_filter,decide_eq_true_eq,ZFG,Bool.not_eq_true']
 constructor
 ·rintro⟨⟨a,b⟩,c⟩;exact⟨a,b,c⟩
 ·rintro⟨a,b,c⟩;exact⟨⟨a,b⟩,c⟩
theorem ZOS {q k:Str}:k∈(ZA0 (repW s) (titB (repW s) (ofK [4] s)) (ZAN s) (ZAN s) q).2.1 ↔ (35::k)∈nodW s/\repW s (35::k)=q:=by
 unfold ZA0;simp only[List.mem_map,List.mem_filter,decide_eq_true_eq,ZFG]
 constructor
 ·rintro⟨z,⟨⟨a,b⟩,c⟩,rfl⟩
  have hz:z=35::z.drop 1:=by
   unfold ZBL at b
   cases z with
   | nil=>simp at b
   | cons c t=>simp at b;simp[b]
  rw[<-hz];exact⟨a,c⟩
 ·rintro⟨a,b⟩
  exact⟨35::k,⟨⟨a,by simp[ZBL]⟩,b⟩,rfl⟩
theorem ZL3 {i:Nat}{w:WkO}(h:(ZAp s)[i]?=some w):w.1.Pairwise ltB/\w.1≠[]:=by
 obtain⟨q,hq,rfl⟩:=ZEw h;refine⟨((ZST s).filter _).filter _,?_⟩;have:=List.mem_of_getElem? hq;unfold ZBJ at this;obtain⟨k,hk,hkq⟩:=List.mem_map.1 (ZDe.1 this);obtain⟨h1,h2⟩:=List.mem_filter.1 hk;exact List.ne_nil_of_mem (ZDf.2 ⟨ZFG.1 h1,by simpa using h2,hkq⟩)
theorem ZPZ {k:Str}(hk:k∈nodW s)(hh:ZBL k=false):∃(i:Nat)(w:WkO),(ZAp s)[i]?=some w/\k∈w.1:=by
 have hq:repW s k∈ZBJ (repW s) (ZAN s):=ZDe.2 (List.mem_map.2 ⟨k,List.mem_filter.2 ⟨ZFG.2 hk,by rw[hh];rfl⟩,rfl⟩);exact⟨_,_,ZHH hq,ZDf.2 ⟨hk,hh,rfl⟩⟩
end
theorem ZIU {α:Type}{lt:α->α->Prop} [DecidableEq α] [DecidableRel lt]{x:α}:∀{l:List α},x ∉ l->∃A B,l=A++B/\insU lt x l=A++x::B
 | [],_=>⟨[],[],rfl,rfl⟩
 | y::l,h=>by
  rw[insU]
  split
  ·obtain⟨A,B,e1,e2⟩:=ZIU (lt:=lt) (x:=x) (l:=l) fun q=>h (List.mem_cons_of_mem _ q)
   exact⟨y::A,B,by rw[e1];rfl,by rw[e2];rfl⟩
  ·split
   ·rename_i h2
    exact absurd (h2 ▸ List.mem_cons_self) h
   ·exact⟨[],y::l,rfl,rfl⟩
theorem ZPJ {l:List WkR}{k:Key}(h:∀y∈l,y.key≠k):cntK l k=0:=by
 cases hc:cntK l k with
 | zero=>rfl
 | succ n =>
  obtain⟨x,hx,e⟩:=ZQP.1 (show 0<cntK l k by omega);exact absurd e (h x hx)
theorem ZQl (A B:List WkR)(x:WkR)(k:Key):cntK (A++x::B) k=cntK (A++B) k+if x.key=k then 1 else 0:=by
 have:A++x::B=A++[x]++B:=by simp
 rw[this,ZHF,ZFT,ZHF];omega
abbrev ordW (l:List WkR):List WkR:=mrgU ltW l
theorem ZQD {M M':List WkR}(h1:M.Pairwise ltW)(h2:M'.Pairwise ltW){k:Key}(h:∀y,y.key=k->(y∈M' ↔ y∈M)):cntK M' k=cntK M k:=by
 unfold cntK
 congr 1
 refine ZMu ZAX (h2.filter _) (h1.filter _) fun y=>?_;simp only[List.mem_filter,decide_eq_true_eq]
 constructor
 ·rintro⟨a,b⟩;exact⟨(h y b).1 a,b⟩
 ·rintro⟨a,b⟩;exact⟨(h y b).2 a,b⟩
theorem ZKT {l p:List WkR}{k:Key}:k∈ZES l p ↔ ∃z∈p,(z.kind=6/\cntK l z.key=1/\z.a=z.archive)/\tgtK z=k:=by
 unfold ZES ZGD;simp only[List.mem_map,List.mem_filter,decide_eq_true_eq]
 constructor
 ·rintro⟨z,⟨h1,h2⟩,h3⟩;exact⟨z,h1,h2,h3⟩
 ·rintro⟨z,h1,h2,h3⟩;exact⟨z,⟨h1,h2⟩,h3⟩
theorem ZKk {l:List WkR}{y:WkR}:y∈ZAK l ↔ y∈l/\y.kind≠6/\cntK l y.key=1/\y.key ∉ ZES l l:=by
 unfold ZAK ZDr;rw[List.mem_filter,decide_eq_true_eq]
theorem ZGg (l:List WkR):(ZAK (ordW l)).Pairwise ltW:=(ZCr ZAX l).filter _
theorem ZEr {l:List WkR}{x:WkR}(y:WkR):y∈ordW (l++[x]) ↔ y∈ordW l\/y=x:=by
 rw[ZAz ZAX,ZAz ZAX,List.mem_append,List.mem_singleton]
theorem ZFC {l:List WkR}{x:WkR}{k:Key}(hk:k≠x.key):cntK (ordW (l++[x])) k=cntK (ordW l) k :=
 ZQD (ZCr ZAX _) (ZCr ZAX _) fun y hy=>by
  rw[ZEr];exact⟨fun h=>h.resolve_right fun e=>hk (by rw[<-hy,e]),.inl⟩
section
variable {l:List WkR}{x:WkR}(hf:∀y∈l,y.key≠x.key)
include hf
theorem ZJZ:cntK (ordW (l++[x])) x.key=1:=by
 have hx:x ∉ ordW l:=fun q=>hf x ((ZAz ZAX).1 q) rfl;obtain⟨A,B,e1,e2⟩:=ZIU (lt:=ltW) hx;have e3:ordW (l++[x])=A++x::B:=by rw[show ordW (l++[x])=insU ltW x (ordW l) from ZOl l x,e2]
 rw[e3,ZQl,if_pos rfl,ZPJ];intro y hy;rw[<-e1] at hy;exact hf y ((ZAz ZAX).1 hy)
theorem ZOC {k:Key}:k∈ZES (ordW (l++[x])) (ordW (l++[x])) ↔ k∈ZES (ordW l) (ordW l)\/(x.kind=6/\x.a=x.archive/\tgtK x=k):=by
 rw[ZKT,ZKT];have hne:∀z∈ordW l,z.key≠x.key:=fun z hz=>hf z ((ZAz ZAX).1 hz)
 constructor
 ·rintro⟨z,hz,⟨h1,h2,h3⟩,h4⟩
  rcases (ZEr z).1 hz with g|rfl
  ·rw[ZFC (hne z g)] at h2
   exact .inl ⟨z,g,⟨h1,h2,h3⟩,h4⟩
  ·exact .inr ⟨h1,h3,h4⟩
 ·rintro (⟨z,hz,⟨h1,h2,h3⟩,h4⟩|⟨h1,h2,h3⟩)
  ·exact⟨z,(ZEr z).2 (.inl hz),⟨h1,by rw[ZFC (hne z hz)];exact h2,h3⟩,h4⟩
  ·exact⟨x,(ZEr x).2 (.inr rfl),⟨h1,ZJZ hf,h2⟩,h3⟩
theorem ZEc (y:WkR):y∈ZAK (ordW (l++[x])) ↔ (y∈ZAK (ordW l)/\¬(x.kind=6/\x.a=x.archive/\tgtK x=y.key))\/(y=x/\x.kind≠6/\x.key ∉ ZES (ordW l) (ordW l)):=by
 rw[ZKk,ZKk,ZEr,ZOC hf];have hne:∀z∈ordW l,z.key≠x.key:=fun z hz=>hf z ((ZAz ZAX).1 hz)
 constructor
 ·rintro⟨h1|rfl,h2,h3,h4⟩
  ·rw[ZFC (hne y h1)] at h3
   exact .inl ⟨⟨h1,h2,h3,fun q=>h4 (.inl q)⟩,fun q=>h4 (.inr q)⟩
  ·exact .inr ⟨rfl,h2,fun q=>h4 (.inl q)⟩
 ·rintro (⟨⟨h1,h2,h3,h4⟩,h5⟩|⟨rfl,h2,h3⟩)
  ·exact⟨.inl h1,h2,by rw[ZFC (hne y h1)];exact h3,fun q=>q.elim h4 h5⟩
  ·exact⟨.inr rfl,h2,ZJZ hf,fun q=>q.elim h3 fun q=>h2 q.1⟩
end
section
variable {l o:List WkR}{a:List UInt8}(hl:∀y∈l,y.archive≠a)(ho:∀y∈o,y.archive=a)
include hl ho
end
section
variable {s s':List WkR}(hsub:∀y∈s,y∈s')
include hsub
theorem ZMD {e:Str×Str}(h:e∈edgW s):e∈edgW s':=by
 unfold edgW at h ⊢;simp only[List.mem_append,List.mem_map,ZBb] at h ⊢
 rcases h with ⟨y,⟨h1,h2⟩,h3⟩|⟨y,⟨h1,h2⟩,h3⟩
 ·exact .inl ⟨y,⟨hsub y h1,h2⟩,h3⟩
 ·exact .inr ⟨y,⟨hsub y h1,h2⟩,h3⟩
theorem ZM7 {a b:Str}(h:Conn s a b):Conn s' a b:=by
 induction h with
 | refl=>exact .refl _
 | step _ hc ih=>exact .step ih (ZDC.2 ((ZDC.1 hc).imp (ZMD hsub) (ZMD hsub)))
theorem ZHT {k:Str}(h:k∈nodW s):k∈nodW s':=by
 unfold nodW at h ⊢;simp only[List.mem_append,ZCG,List.mem_map,ZBb] at h ⊢
 rcases h with (⟨e,he,h⟩|⟨e,⟨y,⟨h1,h2⟩,h3⟩,h⟩)|⟨y,⟨h1,h2⟩,h3⟩
 ·exact .inl (.inl ⟨e,ZMD hsub he,h⟩)
 ·exact .inl (.inr ⟨e,⟨y,⟨hsub y h1,h2⟩,h3⟩,h⟩)
 ·exact .inr ⟨y,⟨hsub y h1,h2⟩,h3⟩
theorem ZNf {i k:Nat}{w u:WkO}(hi:(ZAp s)[i]?=some w)(hk:(ZAp s')[k]?=some u){z:Str}(hz:z∈w.1)(hu:z∈u.1):(∀y∈w.1,y∈u.1)/\∀y∈w.2.1,y∈u.2.1:=by
 obtain⟨q,hq,rfl⟩:=ZEw hi;obtain⟨p,hp,rfl⟩:=ZEw hk;obtain⟨z1,z2,z3⟩:=ZDf.1 hz;obtain⟨u1,-,u3⟩:=ZDf.1 hu
 have key:∀y,y∈nodW s->repW s y=q->repW s' y=p:=fun y hy e=>by
  have h1:Conn s z y:=(ZId z1 hy).1 (z3.trans e.symm);exact ((ZId u1 (ZHT hsub hy)).2 (ZM7 hsub h1)).symm.trans u3
 refine⟨fun y hy=>?_,fun y hy=>?_⟩
 ·obtain⟨y1,y2,y3⟩:=ZDf.1 hy
  exact ZDf.2 ⟨ZHT hsub y1,y2,key y y1 y3⟩
 ·obtain⟨y1,y2⟩:=ZOS.1 hy
  exact ZOS.2 ⟨ZHT hsub y1,key _ y1 y2⟩
theorem ZN9 {i:Nat}{w:WkO}(hi:(ZAp s)[i]?=some w){z:Str}(hz:z∈w.1):∃(k:Nat)(u:WkO),(ZAp s')[k]?=some u/\z∈u.1:=by
 obtain⟨q,hq,rfl⟩:=ZEw hi;obtain⟨z1,z2,z3⟩:=ZDf.1 hz;exact ZPZ (ZHT hsub z1) z2
end
theorem ZJ7 {r r':Str->Str}(k:Str):∀(p:List WkR)(o:Option WkR),(∀x∈p,r x.a=r' x.a)->p.foldl (fun o x=>if r x.a=k then titN o x else o) o=p.foldl (fun o x=>if r' x.a=k then titN o x else o) o
 | [],_,_=>rfl
 | x::p,o,h=>by
  rw[List.foldl_cons,List.foldl_cons,h x List.mem_cons_self];exact ZJ7 k p _ fun y hy=>h y (List.mem_cons_of_mem _ hy)
theorem ZLG {r r' tit tit':Str->Str}{p:List Str}(h:∀k∈p,r k=r' k)(ht:∀q,tit q=tit' q):ZBH r tit p p=ZBH r' tit' p p:=by
 have e1:ZBJ r p=ZBJ r' p:=by
  unfold ZBJ;rw[List.map_congr_left fun k hk=>h k (List.mem_filter.1 hk).1]
 have e2:ZA0 r tit p p=ZA0 r' tit' p p:=by
  funext q
  unfold ZA0;rw[ht,List.filter_congr (p:=fun k=>decide (r k=q)) (q:=fun k=>decide (r' k=q)) fun k hk=>by rw[h k (List.mem_filter.1 hk).1],List.filter_congr (p:=fun k=>decide (r k=q)) (q:=fun k=>decide (r' k=q)) fun k hk=>by rw[h k (List.mem_filter.1 hk).1]]
 unfold ZBH;rw[e1,e2]
theorem ZNk {s s':List WkR}(h1:ofK [1] s'=ofK [1] s)(h2:ofK [2] s'=ofK [2] s)(h4:ofK [4] s'=ofK [4] s)(hn:∀k,k∈nodW s' ↔ k∈nodW s):ZAp s'=ZAp s:=by
 have he:edgW s'=edgW s:=by unfold edgW;rw[h1,h2]
 have hx:nxtW s'=nxtW s:=by funext k;unfold nxtW;rw[he]
 have hc1:∀{a b:Str},Conn s a b->Conn s' a b:=fun h=>by
  induction h with
  | refl=>exact .refl _
  | step _ hc ih=>exact .step ih (by rw[hx];exact hc)
 have hc2:∀{a b:Str},Conn s' a b->Conn s a b:=fun h=>by
  induction h with
  | refl=>exact .refl _
  | step _ hc ih=>exact .step ih (by rw[<-hx];exact hc)
 have hr:∀k∈nodW s,repW s' k=repW s k:=fun k hk=>by
  obtain⟨g1,g2⟩:=ZFU hk;exact (ZMJ ((hn k).2 hk) (hc1 g1) fun z hz=>g2 z (hc2 hz)).symm
 have hs:ZAN s'=ZAN s:=ZPn ZAR hn;unfold ZAp;rw[hs,h4];refine ZLG (fun k hk=>hr k (ZFG.1 hk)) fun q=>?_;unfold titB titS;rw[ZJ7 q _ none fun x hx=>hr x.a ?_];unfold nodW;exact List.mem_append_right _ (List.mem_map.2 ⟨x,hx,rfl⟩)
section
variable {l:List WkR}{x:WkR}(hf:∀y∈l,y.key≠x.key)
include hf
theorem ZFk (h6:x.kind≠6){y:WkR}(hy:y∈ZAK (ordW l)):y∈ZAK (ordW (l++[x])):=(ZEc hf y).2 (.inl ⟨hy,fun q=>h6 q.1⟩)
theorem ZEl (h6:x.kind≠6){ks:List Int}(hk:x.kind ∉ ks):ofK ks (ZAK (ordW (l++[x])))=ofK ks (ZAK (ordW l)):=by
 refine (ZEW ZAX (show (ofK ks (ZAK (ordW (l++[x])))).Pairwise ltW from (ZGg (l++[x])).filter _) (l:=ofK ks (ZAK (ordW l))) fun y=>?_).trans ?_;rotate_left
 ·exact (ZEW ZAX ((ZGg l).filter _) fun y=>Iff.rfl).symm
 ·rw[ZBb,ZBb]
  constructor
  ·rintro⟨h1,h2⟩
   rcases (ZEc hf y).1 h1 with h|h
   ·exact⟨h.1,h2⟩
   ·rw[h.1] at h2;exact absurd h2 hk
  ·rintro⟨h1,h2⟩
   exact⟨ZFk hf h6 h1,h2⟩
theorem ZL0 (h3:x.kind=3)(ha:x.a∈nodW (ZAK (ordW l)))(hb:x.b∈nodW (ZAK (ordW l))):ZAp (ZAK (ordW (l++[x])))=ZAp (ZAK (ordW l)):=by
 have h6:x.kind≠6:=by rw[h3];decide
 have k1:=ZEl hf h6 (ks:=[1]) (by rw[h3];decide);have k2:=ZEl hf h6 (ks:=[2]) (by rw[h3];decide);have k4:=ZEl hf h6 (ks:=[4]) (by rw[h3];decide);refine ZNk k1 k2 k4 fun k=>⟨fun h=>?_,ZHT fun y hy=>ZFk hf h6 hy⟩;have he:edgW (ZAK (ordW (l++[x])))=edgW (ZAK (ordW l)):=by unfold edgW;rw[k1,k2]
 unfold nodW at h;rw[k4,he] at h
 rcases List.mem_append.1 h with h|h
 ·rcases List.mem_append.1 h with h|h
  ·unfold nodW;exact List.mem_append_left _ (List.mem_append_left _ h)
  ·obtain⟨e,he,hk⟩:=ZCG.1 h
   obtain⟨y,hy,rfl⟩:=List.mem_map.1 he;obtain⟨y1,y2⟩:=ZBb.1 hy
   rcases (ZEc hf y).1 y1 with q|q
   ·unfold nodW
    exact List.mem_append_left _ (List.mem_append_right _ (ZCG.2 ⟨_,List.mem_map.2 ⟨y,ZBb.2 ⟨q.1,y2⟩,rfl⟩,hk⟩))
   ·rw[q.1] at hk
    rcases hk with rfl|rfl
    ·exact ha
    ·exact hb
 ·unfold nodW;exact List.mem_append_right _ h
theorem ZJI (h6:x.kind≠6):(ZAK (ordW l)).Sublist (ZAK (ordW (l++[x]))):=by
 have h1:(ZAK (ordW (l++[x]))).filter (fun y=>decide (y∈ZAK (ordW l)))=ZAK (ordW l):=by
  refine (ZEW ZAX ((ZGg (l++[x])).filter _) (l:=ZAK (ordW l)) fun y=>?_).trans ?_;rotate_left
  ·exact (ZEW ZAX (ZGg l) fun y=>Iff.rfl).symm
  ·rw[List.mem_filter,decide_eq_true_eq]
   exact⟨fun h=>h.2,fun h=>⟨ZFk hf h6 h,h⟩⟩
 rw[<-h1];exact List.filter_sublist
end
end Go.Dw
