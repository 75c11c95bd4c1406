/- WH: chapter 12 with no program in sight: what is the same work; the strings that stand for others. -/
import Derived.Test.YtdfadhkbhbbabaaGreatDoorAG4
import Derived.Test.YtdfadhkbhbbabaaGreatDoorAG7
set_option linter.unusedVariables false
set_option linter.unusedSimpArgs false
namespace Go.Dw
open Go
inductive Conn (s:List WkR):Str->Str->Prop where
 | refl (k:Str):Conn s k k
 | step {a b c:Str} (h:Conn s a b) (hc:c∈nxtW s b):Conn s a c
theorem Conn.trans {s:List WkR}{a b c:Str}(h1:Conn s a b)(h2:Conn s b c):Conn s a c:=by
 induction h2 with
 | refl=>exact h1
 | step _ hc ih=>exact ih.step hc
theorem Conn.symm {s:List WkR}{a b:Str}(h:Conn s a b):Conn s b a:=by
 induction h with
 | refl=>exact .refl _
 | step _ hc ih=>exact (Conn.step (.refl _) (ZPB.1 hc)).trans ih
theorem ZG9 {s:List WkR}{k z:Str}(h:z∈nxtW s k):z∈nodW s:=by
 unfold nodW;refine List.mem_append_left _ (List.mem_append_left _ (ZHA.2 ?_))
 rcases ZFf.1 h with q|q
 ·exact⟨_,q,.inr rfl⟩
 ·exact⟨_,q,.inl rfl⟩
theorem Conn.nod {s:List WkR}{a b:Str}(h:Conn s a b)(ha:a∈nodW s):b∈nodW s:=by
 induction h with
 | refl=>exact ha
 | step _ hc _=>exact ZG9 hc
theorem ZNq {v:Str}:∀(l:List Str)(Q:List QE),∀z∈l,z∈(l.foldl (addQ v) Q).map Prod.fst
 | [],_,_,h=>nomatch h
 | y::l,Q,z,h=>by
  rw[List.foldl_cons]
  rcases List.mem_cons.1 h with rfl|h
  ·obtain⟨R,e⟩:=ZG6 v l (addQ v Q z)
   rw[e,List.map_append];refine List.mem_append_left _ ?_;unfold addQ
   split
   ·assumption
   ·rw[List.map_append];exact List.mem_append_right _ (by simp)
  ·exact ZNq l _ z h
theorem ZNj (nxt:Str->List Str)(a:Str):∀i j e,j<i->(bfsQ nxt a i)[j]?=some e->∀z∈nxt e.1,z∈(bfsQ nxt a i).map Prod.fst
 | 0,_,_,h,_,_,_=>absurd h (Nat.not_lt_zero _)
 | i+1,j,e,h,hj,z,hz=>by
  obtain⟨R,hR⟩:=ZJO nxt a i (i+1) (Nat.le_succ i)
  rcases Nat.lt_or_ge j (bfsQ nxt a i).length with q|q
  ·have hj0:(bfsQ nxt a i)[j]?=some e:=by rw[hR,List.getElem?_append_left q] at hj;exact hj
   rcases Nat.lt_or_ge j i with q2|q2
   ·have:=ZNj nxt a i j e q2 hj0 z hz
    rw[hR,List.map_append];exact List.mem_append_left _ this
   ·obtain rfl:j=i:=by omega
    rw[bfsQ,hj0];exact ZNq _ _ z hz
  ·rcases Nat.lt_or_ge i (bfsQ nxt a i).length with q2|q2
   ·omega
   ·rw[ZMz q2 (i+1) (Nat.le_succ i)] at hj
    rw[List.getElem?_eq_none q] at hj;cases hj
def ZOd (s:List WkR)(k:Str):List Str:=(bfsQ (nxtW s) k (nodW s).length).map Prod.fst
theorem ZTe {s:List WkR}{k:Str}(hk:k∈nodW s)(i:Nat):(bfsQ (nxtW s) k i).length<=(nodW s).length:=by
 have:=ZBH (QOK.bfs (nxtW s) k i).nd (m:=nodW s) fun z hz=>by
  obtain⟨e,he,rfl⟩:=List.mem_map.1 hz;exact ZQO (N:=fun z=>z∈nodW s) hk (fun v _ z hz=>ZG9 hz) i e he
 rwa [List.length_map] at this
theorem ZLZ {s:List WkR}{k v:Str}(hv:Conn s k v):∀(l:List Str){Q:List QE},(∀z∈l,z∈nxtW s v)->(∀e∈Q,Conn s k e.1)->∀e∈l.foldl (addQ v) Q,Conn s k e.1
 | [],_,_,h=>h
 | z::l,Q,hl,h=>by
  rw[List.foldl_cons];refine ZLZ hv l (fun z hz=>hl z (List.mem_cons_of_mem _ hz)) fun e he=>?_;unfold addQ at he
  split at he
  ·exact h e he
  ·rcases List.mem_append.1 he with he|he
   ·exact h e he
   ·rw[List.mem_singleton.1 he];exact hv.step (hl z List.mem_cons_self)
theorem ZNM (s:List WkR)(k:Str):∀i,∀e∈bfsQ (nxtW s) k i,Conn s k e.1
 | 0,e,he=>by
  have:e=(k,[]):=by simpa [bfsQ] using he
  rw[this];exact .refl _
 | i+1,e,he=>by
  have h:=ZNM s k i;unfold bfsQ at he
  split at he
  ·exact h e he
  ·rename_i e0 he0
   exact ZLZ (h e0 (List.mem_of_getElem? he0)) _ (fun _ h=>h) h e he
theorem ZPF {s:List WkR}{k z:Str}(hk:k∈nodW s):z∈ZOd s k ↔ Conn s k z:=by
 unfold ZOd
 constructor
 ·intro h
  obtain⟨e,he,rfl⟩:=List.mem_map.1 h;exact ZNM s k _ e he
 ·intro h
  induction h with
  | refl =>
   have:=(QOK.bfs (nxtW s) k (nodW s).length).hd;exact List.mem_map.2 ⟨_,List.mem_of_getElem? this,rfl⟩
  | step _ hc ih =>
   obtain⟨e,he,rfl⟩:=List.mem_map.1 ih;obtain⟨j,hj,rfl⟩:=List.getElem_of_mem he;have hjl:=ZTe hk (nodW s).length;exact ZNj (nxtW s) k _ j _ (by omega) (List.getElem?_eq_getElem hj) _ hc
def repW (s:List WkR)(k:Str):Str:=(mrgU ltB (ZOd s k)).headD []
theorem ZHy {s:List WkR}{k:Str}(hk:k∈nodW s):Conn s k (repW s k)/\∀z,Conn s k z->¬ltB z (repW s k):=by
 have hup:=ZEF ZAR (ZOd s k);have hm:∀z,z∈mrgU ltB (ZOd s k) ↔ Conn s k z:=fun z=>by rw[ZBS ZAR,ZPF hk]
 unfold repW
 cases hq:mrgU ltB (ZOd s k) with
 | nil =>
  have:=(hm k).2 (.refl k);rw[hq] at this;cases this
 | cons y l =>
  rw[hq] at hup hm;refine⟨(hm y).1 List.mem_cons_self,fun z hz hlt=>?_⟩
  rcases List.mem_cons.1 ((hm z).2 hz) with rfl|h
  ·exact ZAR.irr _ hlt
  ·exact ZAR.irr _ (ZAR.tr hlt ((List.pairwise_cons.1 hup).1 z h))
theorem ZRA {s:List WkR}{k r:Str}(hk:k∈nodW s)(h1:Conn s k r)(h2:∀z,Conn s k z->¬ltB z r):r=repW s k:=by
 obtain⟨g1,g2⟩:=ZHy hk
 rcases ZAR.tri r (repW s k) with q|q|q
 ·exact absurd q (g2 r h1)
 ·exact q
 ·exact absurd q (h2 _ g1)
theorem ZSM {s:List WkR}{a b:Str}(ha:a∈nodW s)(hb:b∈nodW s):repW s a=repW s b ↔ Conn s a b:=by
 obtain⟨g1,g2⟩:=ZHy ha;obtain⟨k1,k2⟩:=ZHy hb
 constructor
 ·intro e
  rw[e] at g1;exact g1.trans k1.symm
 ·intro h
  exact ZRA hb (h.symm.trans g1) fun z hz=>g2 z (h.trans hz)
structure UF (N:List Str)(M:Str->Option Str)(r:Str->Str):Prop where
 no:∀k,M k=none->r k=k
 same:∀k,M k=some k->r k=k
 up:∀k u,M k=some u->u≠k->ltB u k/\u∈N/\r u=r k
 idem:∀k,r (r k)=r k
 root:∀k,M (r k)=none\/M (r k)=some (r k)
 nod:∀k∈N,r k∈N
theorem UF.init (N:List Str):UF N (fun _=>none) id:=⟨fun _ _=>rfl,fun _ _=>rfl,(fun _ _ h=>nomatch h),fun _=>rfl,fun _=>.inl rfl,fun _ h=>h⟩
def uniR (r:Str->Str)(x y k:Str):Str:=if r k=maxB (r x) (r y) then minB (r x) (r y) else r k
theorem ZGa (a b:Str):(minB a b=a/\maxB a b=b)\/(minB a b=b/\maxB a b=a):=by
 unfold minB maxB
 split
 ·exact .inr ⟨rfl,rfl⟩
 ·exact .inl ⟨rfl,rfl⟩
theorem ZUQ {a b:Str}(h:minB a b≠maxB a b):ltB (minB a b) (maxB a b):=by
 unfold minB maxB at *
 split at h
 ·rename_i q
  simp only[q,if_true]
 ·rename_i q
  simp only[q,if_false] at h ⊢
  rcases ZAR.tri a b with g|g|g
  ·exact g
  ·exact absurd g h
  ·exact absurd g q
theorem UF.uni {N:List Str}{M:Str->Option Str}{r:Str->Str}(h:UF N M r){x y:Str}(hx:x∈N)(hy:y∈N) :
  UF N (fun k=>if k=maxB (r x) (r y) then some (minB (r x) (r y)) else M k) (uniR r x y):=by
 have hrx:=h.idem x;have hry:=h.idem y;have hnx:=h.nod x hx;have hny:=h.nod y hy;have hM1:=h.root x;have hM2:=h.root y;have hmin:r (minB (r x) (r y))=minB (r x) (r y):=by
  rcases ZGa (r x) (r y) with ⟨e,-⟩|⟨e,-⟩ <;> rw[e] <;> assumption
 have hmax:r (maxB (r x) (r y))=maxB (r x) (r y):=by
  rcases ZGa (r x) (r y) with ⟨-,e⟩|⟨-,e⟩ <;> rw[e] <;> assumption
 have hnm:minB (r x) (r y)∈N:=by
  rcases ZGa (r x) (r y) with ⟨e,-⟩|⟨e,-⟩ <;> rw[e] <;> assumption
 have hMm:M (minB (r x) (r y))=none\/M (minB (r x) (r y))=some (minB (r x) (r y)):=by
  rcases ZGa (r x) (r y) with ⟨e,-⟩|⟨e,-⟩ <;> rw[e] <;> assumption
 have hlt:=@ZUQ (r x) (r y);unfold uniR;generalize minB (r x) (r y)=n at *;generalize maxB (r x) (r y)=m at *
 have hrn:∀k,(if r (if r k=m then n else r k)=m then n else r (if r k=m then n else r k))=if r k=m then n else r k:=fun k=>by
  by_cases e:r k=m
  ·rw[if_pos e,hmin]
   by_cases e2:n=m
   ·rw[if_pos e2]
   ·rw[if_neg e2]
  ·rw[if_neg e,h.idem,if_neg e]
 constructor
 ·intro k hk
  by_cases e:k=m
  ·rw[if_pos e] at hk;cases hk
  ·rw[if_neg e] at hk
   have:=h.no k hk;rw[this,if_neg e]
 ·intro k hk
  by_cases e:k=m
  ·rw[if_pos e] at hk
   have e2:=Option.some.inj hk;have:r k=m:=by rw[e];exact hmax
   rw[if_pos this];exact e2
  ·rw[if_neg e] at hk
   have:=h.same k hk;rw[this,if_neg e]
 ·intro k u hk hne
  by_cases e:k=m
  ·rw[if_pos e] at hk
   have e2:=Option.some.inj hk;subst e2;have hnm':n≠m:=fun q=>hne (q.trans e.symm);refine⟨by rw[e];exact hlt hnm',hnm,?_⟩;have:r k=m:=by rw[e];exact hmax
   rw[if_pos this,hmin,if_neg hnm']
  ·rw[if_neg e] at hk
   obtain⟨q1,q2,q3⟩:=h.up k u hk hne;exact⟨q1,q2,by rw[q3]⟩
 ·exact hrn
 ·intro k
  by_cases e:r k=m
  ·rw[if_pos e]
   by_cases e2:n=m
   ·rw[if_pos e2];exact .inr rfl
   ·rw[if_neg e2];exact hMm
  ·rw[if_neg e,if_neg e]
   exact h.root k
 ·intro k hk
  split
  ·exact hnm
  ·exact h.nod k hk
theorem ZTH {r:Str->Str}(hi:∀k,r (r k)=r k)(x y:Str):uniR r x y x=uniR r x y y:=by
 unfold uniR
 rcases ZGa (r x) (r y) with ⟨e1,e2⟩|⟨e1,e2⟩
 ·rw[e1,e2]
  simp
 ·rw[e1,e2]
  simp
theorem ZLS {r:Str->Str}{x y a b:Str}(h:r a=r b):uniR r x y a=uniR r x y b:=by
 unfold uniR;rw[h]
theorem ZRB {s:List WkR}{r:Str->Str}{x y:Str}(h:∀k,Conn s k (r k))(hxy:Conn s x y)(k:Str):Conn s k (uniR r x y k):=by
 unfold uniR
 by_cases e:r k=maxB (r x) (r y)
 ·rw[if_pos e]
  have hk:=h k;rw[e] at hk
  rcases ZGa (r x) (r y) with ⟨e1,e2⟩|⟨e1,e2⟩
  ·rw[e1]
   rw[e2] at hk;exact hk.trans ((h y).symm.trans (hxy.symm.trans (h x)))
  ·rw[e1]
   rw[e2] at hk;exact hk.trans ((h x).symm.trans (hxy.trans (h y)))
 ·rw[if_neg e];exact h k
theorem ZPQ {N:List Str}{u k:Str}(q1:ltB u k)(q2:u∈N):(N.filter fun z=>decide (ltB z u)).length<(N.filter fun z=>decide (ltB z k)).length:=by
 induction N with
 | nil=>cases q2
 | cons x N ih =>
  have hle:(N.filter fun z=>decide (ltB z u)).length<=(N.filter fun z=>decide (ltB z k)).length:=by
   clear ih q2
   induction N with
   | nil=>exact Nat.le_refl _
   | cons y N ih =>
    rw[List.filter_cons,List.filter_cons]
    by_cases h1:ltB y u
    ·rw[if_pos (decide_eq_true h1),if_pos (decide_eq_true (ZAR.tr h1 q1))]
     simpa using ih
    ·rw[if_neg (by simpa using h1)]
     split
     ·rw[List.length_cons];omega
     ·exact ih
  rw[List.filter_cons,List.filter_cons]
  rcases List.mem_cons.1 q2 with rfl|q2
  ·rw[if_neg (by simp),if_pos (decide_eq_true q1),List.length_cons]
   omega
  ·have:=ih q2
   by_cases h1:ltB x u
   ·rw[if_pos (decide_eq_true h1),if_pos (decide_eq_true (ZAR.tr h1 q1)),List.length_cons,List.length_cons];omega
   ·rw[if_neg (by simpa using h1)]
    split
    ·rw[List.length_cons];omega
    ·exact this
theorem UF.done {s:List WkR}{M:Str->Option Str}{r:Str->Str}(h:UF (nodW s) M r)(hc:∀k,Conn s k (r k))(ht:∀k∈nodW s,∀z∈nxtW s k,r z=r k){k:Str}(hk:k∈nodW s):r k=repW s k:=by
 have hle:∀n k,((nodW s).filter fun z=>decide (ltB z k)).length<=n->¬ltB k (r k):=by
  intro n
  induction n with
  | zero =>
   intro k hn
   cases hM:M k with
   | none=>rw[h.no k hM];exact ZAR.irr k
   | some u =>
    by_cases e:u=k
    ·rw[h.same k (e ▸ hM)];exact ZAR.irr k
    ·obtain⟨q1,q2,-⟩:=h.up k u hM e
     have:u∈(nodW s).filter fun z=>decide (ltB z k):=List.mem_filter.2 ⟨q2,decide_eq_true q1⟩;have:=List.length_pos_of_mem this;omega
  | succ n ih =>
   intro k hn
   cases hM:M k with
   | none=>rw[h.no k hM];exact ZAR.irr k
   | some u =>
    by_cases e:u=k
    ·rw[h.same k (e ▸ hM)];exact ZAR.irr k
    ·obtain⟨q1,q2,q3⟩:=h.up k u hM e
     have hu:=ih u (by
      have hsub:((nodW s).filter fun z=>decide (ltB z u)).length<((nodW s).filter fun z=>decide (ltB z k)).length:=ZPQ q1 q2;omega)
     rw[q3] at hu;intro hlt;exact hu (ZAR.tr q1 hlt)
 have hcr:∀z,Conn s k z->r z=r k:=fun z hz=>by
  have:∀a b,Conn s a b->a∈nodW s->r b=r a:=fun a b hab=>by
   induction hab with
   | refl=>intro _;rfl
   | step hab hc ih =>
    intro ha;rw[ht _ (hab.nod ha) _ hc,ih ha]
  exact this k z hz hk
 refine ZRA hk (hc k) fun z hz hlt=>?_;have:=hcr z hz;exact hle _ z (Nat.le_refl _) (by rw[this];exact hlt)
abbrev Twc:=Str×Int×Key×Key
theorem ZTD {s:List WkR}{t:Int}{k:Str}:(ZBn s t k).Pairwise fun x y=>x.day<=y.day :=
 (ZEF ZB1 _).imp fun {x y} h=>by
  rcases ZRT.1 h with q|⟨q,-⟩
  ·exact Int.le_of_lt q
  ·exact Int.le_of_eq q
section
variable {k:Str}{l:List WkR}{i b:Nat}{t:Bool}{o:List Twc}
end
def titN (o:Option WkR)(x:WkR):Option WkR:=match o with
 | none=>some x
 | some y=>if y.day<x.day then some x else some y
def titS (r:Str->Str)(p:List WkR)(k:Str):Option WkR:=p.foldl (fun o x=>if r x.a=k then titN o x else o) none
theorem ZFX (r:Str->Str)(p:List WkR)(x:WkR)(k:Str):titS r (p++[x]) k=if r x.a=k then titN (titS r p k) x else titS r p k:=by
 unfold titS;rw[List.foldl_append];rfl
def titB (r:Str->Str)(p:List WkR)(k:Str):Str:=((titS r p k).map WkR.b).getD []
def ZCF (k:Str):Bool:=decide (k.take 1=[35])
def ZIE (l:List Str):List Str:=l.foldl (fun R q=>if q∈R then R else R++[q]) []
theorem ZF2 (l:List Str)(q:Str):ZIE (l++[q])=if q∈ZIE l then ZIE l else ZIE l++[q]:=by
 unfold ZIE;rw[List.foldl_append];rfl
theorem ZHK (l:List Str):(ZIE l).Nodup:=by
 induction l using ZEf with
 | h0=>simp[ZIE]
 | h1 l x ih =>
  rw[ZF2]
  split
  ·exact ih
  ·rename_i h
   rw[List.nodup_append];refine⟨ih,by simp,fun a ha b hb e=>h ?_⟩;rw[List.mem_singleton] at hb;rw[<-hb,<-e];exact ha
theorem ZIM {l:List Str}{q:Str}:q∈ZIE l ↔ q∈l:=by
 induction l using ZEf with
 | h0=>simp[ZIE]
 | h1 l x ih =>
  rw[ZF2,List.mem_append,List.mem_singleton]
  split
  ·rename_i h
   rw[ih]
   constructor
   ·exact .inl
   ·rintro (q2|rfl)
    ·exact q2
    ·exact ih.1 h
  ·rw[List.mem_append,List.mem_singleton,ih]
theorem ZPG (l:List Str):(ZIE l).length<=l.length:=ZBH (ZHK l) fun _ h=>ZIM.1 h
abbrev WkO:=List Str×List Str×Str
def ZBb (r tit:Str->Str)(p1 p2:List Str)(q:Str):WkO :=
 ((p1.filter fun k=>!ZCF k).filter (fun k=>decide (r k=q)),((p2.filter ZCF).filter fun k=>decide (r k=q)).map (List.drop 1),tit q)
def ZCQ (r:Str->Str)(p1:List Str):List Str:=ZIE ((p1.filter fun k=>!ZCF k).map r)
def ZB5 (r tit:Str->Str)(p1 p2:List Str):List WkO:=(ZCQ r p1).map (ZBb r tit p1 p2)
theorem ZHW (r:Str->Str)(p:List Str):(ZCQ r p).Nodup:=ZHK _
theorem map_set {R:List Str}{q:Str}{F F':Str->WkO}(hn:R.Nodup)(hq:q∈R)(h:∀z,z≠q->F' z=F z):R.map F'=(R.map F).set (R.idxOf q) (F' q):=by
 apply List.ext_getElem?;intro t;rw[List.getElem?_set,List.getElem?_map,List.getElem?_map,List.length_map];have hlt:=List.idxOf_lt_length_of_mem hq
 by_cases e:R.idxOf q=t
 ·rw[if_pos e,if_pos (by omega),<-e,List.getElem?_eq_getElem hlt,List.getElem_idxOf];rfl
 ·rw[if_neg e]
  cases hz:R[t]? with
  | none=>rfl
  | some z =>
   have hne:z≠q:=fun q2=>by
    obtain⟨h1,h2⟩:=List.getElem?_eq_some_iff.1 hz;have:R[R.idxOf q]=R[t]:=by rw[List.getElem_idxOf,h2,q2]
    exact e ((List.getElem_inj hn).1 this)
   simp[h z hne]
theorem ZEi {r:Str->Str}{p:List Str}{k:Str}(hk:ZCF k=false):ZCQ r (p++[k])=if r k∈ZCQ r p then ZCQ r p else ZCQ r p++[r k]:=by
 unfold ZCQ;rw[List.filter_append,List.map_append];have:[k].filter (fun k=>!ZCF k)=[k]:=by simp[hk]
 rw[this];exact ZF2 _ _
theorem ZIw {r:Str->Str}{p:List Str}{k:Str}(hk:ZCF k=true):ZCQ r (p++[k])=ZCQ r p:=by
 unfold ZCQ;rw[List.filter_append];have:[k].filter (fun k=>!ZCF k)=[]:=by simp[hk]
 rw[this,List.append_nil]
theorem ZL4 {r tit:Str->Str}{p p2:List Str}{k:Str}(hk:ZCF k=true):ZBb r tit (p++[k]) p2=ZBb r tit p p2:=by
 funext q
 unfold ZBb;rw[List.filter_append];have:[k].filter (fun k=>!ZCF k)=[]:=by simp[hk]
 rw[this,List.append_nil]
theorem ZEn {r tit:Str->Str}{p p2:List Str}{k:Str}(hk:ZCF k=false)(q:Str):ZBb r tit (p++[k]) p2 q=((ZBb r tit p p2 q).1++if r k=q then [k] else [],(ZBb r tit p p2 q).2):=by
 unfold ZBb;rw[List.filter_append,List.filter_append];have:[k].filter (fun k=>!ZCF k)=[k]:=by simp[hk]
 rw[this]
 by_cases e:r k=q <;> simp[e]
theorem ZMO {r tit:Str->Str}{p1 p:List Str}{k:Str}(hk:ZCF k=false):ZBb r tit p1 (p++[k])=ZBb r tit p1 p:=by
 funext q
 unfold ZBb;rw[List.filter_append (p:=ZCF)];have:[k].filter ZCF=[]:=by simp[hk]
 rw[this,List.append_nil]
theorem ZIj {r tit:Str->Str}{p1 p:List Str}{k:Str}(hk:ZCF k=true)(q:Str):ZBb r tit p1 (p++[k]) q=((ZBb r tit p1 p q).1,(ZBb r tit p1 p q).2.1++(if r k=q then [k.drop 1] else []),(ZBb r tit p1 p q).2.2):=by
 unfold ZBb;rw[List.filter_append (p:=ZCF),List.filter_append];have:[k].filter ZCF=[k]:=by simp[hk]
 rw[this]
 by_cases e:r k=q <;> simp[e]
theorem ZOe {r tit:Str->Str}{p p2:List Str}{k:Str}(hk:ZCF k=false)(hq:r k∈ZCQ r p):ZB5 r tit (p++[k]) p2=(ZB5 r tit p p2).set ((ZCQ r p).idxOf (r k)) ((ZBb r tit p p2 (r k)).1++[k],(ZBb r tit p p2 (r k)).2):=by
 unfold ZB5;rw[ZEi hk,if_pos hq];rw[map_set (F:=ZBb r tit p p2) (F':=ZBb r tit (p++[k]) p2) (ZHW _ _) hq fun z hz=>by rw[ZEn hk,if_neg (Ne.symm hz),List.append_nil]];rw[ZEn hk,if_pos rfl]
theorem ZOg {r tit:Str->Str}{p:List Str}{k:Str}(hk:ZCF k=false)(hq:r k ∉ ZCQ r p):ZB5 r tit (p++[k]) []=ZB5 r tit p []++[([k],[],tit (r k))]:=by
 unfold ZB5;rw[ZEi hk,if_neg hq,List.map_append,List.map_cons,List.map_nil]
 congr 1
 ·apply List.map_congr_left
  intro z hz;rw[ZEn hk,if_neg (fun e:r k=z=>hq (by rw[e];exact hz)),List.append_nil]
 ·rw[ZEn hk,if_pos rfl]
  have:(ZBb r tit p [] (r k)).1=[]:=by
   unfold ZBb;simp only;rw[List.filter_eq_nil_iff];intro z hz e;exact hq (ZIM.2 (List.mem_map.2 ⟨z,hz,of_decide_eq_true e⟩))
  rw[this];rfl
theorem ZMu {r tit:Str->Str}{p1 p:List Str}{k:Str}(hk:ZCF k=true)(hq:r k∈ZCQ r p1):ZB5 r tit p1 (p++[k])=(ZB5 r tit p1 p).set ((ZCQ r p1).idxOf (r k)) ((ZBb r tit p1 p (r k)).1,(ZBb r tit p1 p (r k)).2.1++[k.drop 1],(ZBb r tit p1 p (r k)).2.2):=by
 unfold ZB5;rw[map_set (F:=ZBb r tit p1 p) (F':=ZBb r tit p1 (p++[k])) (ZHW _ _) hq fun z hz=>by rw[ZIj hk,if_neg (Ne.symm hz),List.append_nil]];rw[ZIj hk,if_pos rfl]
theorem ZKf {r tit:Str->Str}{p1 p2:List Str}{q:Str}(hq:q∈ZCQ r p1):(ZB5 r tit p1 p2)[(ZCQ r p1).idxOf q]?=some (ZBb r tit p1 p2 q):=by
 unfold ZB5;rw[List.getElem?_map,List.getElem?_eq_getElem (List.idxOf_lt_length_of_mem hq),List.getElem_idxOf];rfl
def ZAQ (s:List WkR):List Str:=mrgU ltB (nodW s)
def ZRK (s:List WkR):List WkO:=ZB5 (repW s) (titB (repW s) (ofK [4] s)) (ZAQ s) (ZAQ s)
end Go.Dw
