/- M1: matchings, with no program in sight: what a search for places leaves, whether it succeeds or not; reels fit by places just if they fit by counts. -/
namespace Go.Mt
variable {P:Type}
def Fit (adj:Nat->P->Prop)(K:List Nat):Prop:=∃f:Nat->P,(∀r∈K,adj r (f r))/\∀r∈K,∀s∈K,f r=f s->r=s
theorem Fit.mono {adj:Nat->P->Prop}{K K':List Nat}(h:Fit adj K')(hs:∀r∈K,r∈K'):Fit adj K:=by
 obtain⟨f,h1,h2⟩:=h
 exact⟨f,fun r hr=>h1 r (hs r hr),fun r hr s hs'=>h2 r (hs r hr) s (hs s hs')⟩
theorem Fit.congr {adj adj':Nat->P->Prop}{K K':List Nat}(ha:∀r∈K,∀p,adj r p ↔ adj' r p)(hk:∀r,r∈K ↔ r∈K'):Fit adj K ↔ Fit adj' K':=by
 constructor
 ·rintro⟨f,h1,h2⟩
  exact⟨f,fun r hr=>(ha r ((hk r).2 hr) _).1 (h1 r ((hk r).2 hr)),fun r hr s hs=>h2 r ((hk r).2 hr) s ((hk s).2 hs)⟩
 ·rintro⟨f,h1,h2⟩
  exact⟨f,fun r hr=>(ha r hr _).2 (h1 r ((hk r).1 hr)),fun r hr s hs=>h2 r ((hk r).1 hr) s ((hk s).1 hs)⟩
theorem nodup_le {α:Type} [DecidableEq α]:∀{l m:List α},l.Nodup->(∀x∈l,x∈m)->l.length<=m.length
 | [],_,_,_=>Nat.zero_le _
 | a::l,m,hn,hs=>by
  rw[List.nodup_cons] at hn
  have ha:=hs a List.mem_cons_self
  have:=nodup_le (l:=l) (m:=m.erase a) hn.2 (fun x hx=>by
   rw[List.mem_erase_of_ne (fun e=>hn.1 (by rw[<-e];exact hx))]
   exact hs x (List.mem_cons_of_mem _ hx))
  rw[List.length_erase_of_mem ha] at this
  have hp:0<m.length:=List.length_pos_of_mem ha
  simp only[List.length_cons]
  omega
theorem map_nodup {α β:Type}{f:α->β}:∀{l:List α},(∀a∈l,∀b∈l,f a=f b->a=b)->l.Nodup->(l.map f).Nodup
 | [],_,_=>by simp
 | a::l,hi,hn=>by
  rw[List.nodup_cons] at hn
  rw[List.map_cons,List.nodup_cons]
  refine⟨fun hm=>?_,map_nodup (fun x hx y hy=>hi x (List.mem_cons_of_mem _ hx) y (List.mem_cons_of_mem _ hy)) hn.2⟩
  obtain⟨b,hb,e⟩:=List.mem_map.1 hm
  have:=hi b (List.mem_cons_of_mem _ hb) a List.mem_cons_self e
  exact hn.1 (by rw[<-this];exact hb)
structure M (adj:Nat->P->Prop)(T:P->Option Nat)(K:List Nat)(f:Nat->P)(X:P->Prop):Prop where
 has:∀r∈K,T (f r)=some r/\¬X (f r)
 can:∀r∈K,adj r (f r)
 inv:∀p r,¬X p->T p=some r->r∈K/\f r=p
theorem M.fit {adj:Nat->P->Prop}{T:P->Option Nat}{K:List Nat}{f:Nat->P}{X:P->Prop}(h:M adj T K f X):Fit adj K :=
 ⟨f,h.can,fun r hr s hs e=>by have h1:=(h.has r hr).1;rw[e,(h.has s hs).1] at h1;cases h1;rfl⟩
structure Won (adj:Nat->P->Prop)(S:List P)(T T':P->Option Nat)(r:Nat):Prop where
 now:∀K f X,M adj T K f X->r ∉ K->(∀p,X p->p∈S)->∃f',M adj T' (r::K) f' X
 keep:∀p∈S,T' p=T p
def Vain (adj:Nat->P->Prop)(S S':List P)(T:P->Option Nat):Prop:=∀p∈S',p ∉ S->∃s,T p=some s/\∀q,adj s q->q∈S'
structure Lost (adj:Nat->P->Prop)(S S':List P)(T:P->Option Nat)(r:Nat):Prop where
 all:∀p,adj r p->p∈S'
 vain:Vain adj S S' T
section
variable {adj:Nat->P->Prop}{S S1:List P}{T T':P->Option Nat}{r:Nat}
theorem Won.anti (h:Won adj S1 T T' r)(hs:∀q∈S,q∈S1):Won adj S T T' r :=
 ⟨fun K f X hM hr hX=>h.now K f X hM hr (fun q hq=>hs q (hX q hq)),fun q hq=>h.keep q (hs q hq)⟩
theorem vain_refl:Vain adj S S T:=fun p hp hn=>absurd hp hn
end
variable [DecidableEq P]
def setT (T:P->Option Nat)(p:P)(r:Nat):P->Option Nat:=fun q=>if q=p then some r else T q
theorem setT_same (T:P->Option Nat)(p:P)(r:Nat):setT T p r p=some r:=by simp[setT]
theorem setT_other (T:P->Option Nat){p q:P}(r:Nat)(h:q≠p):setT T p r q=T q:=by simp[setT,h]
section
variable {adj:Nat->P->Prop}{S S1 S3:List P}{T T':P->Option Nat}{r s:Nat}{p:P}
theorem won_free (ha:adj r p)(hp:p ∉ S)(hT:T p=none):Won adj S T (setT T p r) r:=by
 refine⟨fun K f X hM hr hX=>⟨fun x=>if x=r then p else f x,?_⟩,fun q hq=>setT_other _ _ (fun e=>hp (by rw[<-e];exact hq))⟩
 have hXp:¬X p:=fun hx=>hp (hX p hx)
 have hne:∀x∈K,x≠r:=fun x hx e=>hr (by rw[<-e];exact hx)
 constructor
 ·intro x hx
  rcases List.mem_cons.1 hx with e|g
  ·subst e;simp only[if_true];exact⟨setT_same _ _ _,hXp⟩
  ·have:=hM.has x g
   simp only[hne x g,if_false]
   refine⟨?_,this.2⟩
   rw[setT_other _ _ (fun e=>by rw[e,hT] at this;cases this.1)]
   exact this.1
 ·intro x hx
  rcases List.mem_cons.1 hx with e|g
  ·subst e;simp only[if_true];exact ha
  ·simp only[hne x g,if_false];exact hM.can x g
 ·intro q x hq hx
  by_cases e:q=p
  ·subst e
   rw[setT_same] at hx;cases hx
   exact⟨List.mem_cons_self,by simp⟩
  ·rw[setT_other _ _ e] at hx
   obtain⟨h1,h2⟩:=hM.inv q x hq hx
   refine⟨List.mem_cons_of_mem _ h1,?_⟩
   simp only[hne x h1,if_false];exact h2
theorem won_move (ha:adj r p)(hp:p ∉ S)(hT:T p=some s)(hw:Won adj (S++[p]) T T' s):Won adj S T (setT T' p r) r:=by
 refine⟨fun K f X hM hr hX=>?_,fun q hq=>?_⟩
 rotate_left
 ·rw[setT_other _ _ (fun e=>hp (by rw[<-e];exact hq))]
  exact hw.keep q (List.mem_append_left _ hq)
 have hXp:¬X p:=fun hx=>hp (hX p hx)
 obtain⟨hs,hfs⟩:=hM.inv p s hXp hT
 have hM':M adj T (K.filter fun x=>decide (x≠s)) f (fun q=>X q\/q=p):=by
  constructor
  ·intro x hx
   obtain⟨h1,h2⟩:=List.mem_filter.1 hx
   have h2:=of_decide_eq_true h2
   have:=hM.has x h1
   refine⟨this.1,?_⟩
   rintro (g|g)
   ·exact this.2 g
   ·rw[g,hT] at this;exact h2 (by cases this.1;rfl)
  ·intro x hx;exact hM.can x (List.mem_filter.1 hx).1
  ·intro q x hq hx
   obtain⟨h1,h2⟩:=hM.inv q x (fun g=>hq (.inl g)) hx
   refine⟨List.mem_filter.2 ⟨h1,decide_eq_true fun e=>hq (.inr ?_)⟩,h2⟩
   rw[<-h2,e,hfs]
 obtain⟨f',hM2⟩:=hw.now _ _ _ hM' (fun hm=>by have:=of_decide_eq_true (List.mem_filter.1 hm).2;exact this rfl) (fun q hq=>by
  rcases hq with g|g
  ·exact List.mem_append_left _ (hX q g)
  ·rw[g];exact List.mem_append_right _ List.mem_cons_self)
 refine⟨fun x=>if x=r then p else f' x,?_⟩
 have hne:∀x∈K,x≠r:=fun x hx e=>hr (by rw[<-e];exact hx)
 have hin:∀x∈K,x∈s::K.filter fun x=>decide (x≠s):=fun x hx=>by
  by_cases e:x=s
  ·rw[e];exact List.mem_cons_self
  ·exact List.mem_cons_of_mem _ (List.mem_filter.2 ⟨hx,decide_eq_true e⟩)
 constructor
 ·intro x hx
  rcases List.mem_cons.1 hx with e|g
  ·subst e;simp only[if_true];exact⟨setT_same _ _ _,hXp⟩
  ·have:=hM2.has x (hin x g)
   simp only[hne x g,if_false]
   refine⟨?_,fun hx=>this.2 (.inl hx)⟩
   rw[setT_other _ _ (fun e=>this.2 (.inr e))]
   exact this.1
 ·intro x hx
  rcases List.mem_cons.1 hx with e|g
  ·subst e;simp only[if_true];exact ha
  ·simp only[hne x g,if_false];exact hM2.can x (hin x g)
 ·intro q x hq hx
  by_cases e:q=p
  ·subst e
   rw[setT_same] at hx;cases hx
   exact⟨List.mem_cons_self,by simp⟩
  ·rw[setT_other _ _ e] at hx
   obtain⟨h1,h2⟩:=hM2.inv q x (fun g=>g.elim hq e) hx
   have hk:x∈K:=by
    rcases List.mem_cons.1 h1 with g|g
    ·rw[g];exact hs
    ·exact (List.mem_filter.1 g).1
   refine⟨List.mem_cons_of_mem _ hk,?_⟩
   simp only[hne x hk,if_false];exact h2
theorem vain_step (hv:Vain adj S S1 T)(hT:T p=some s)(hs:∀q∈S1++[p],q∈S3)(hl:Lost adj (S1++[p]) S3 T s):Vain adj S S3 T:=by
 intro q hq hn
 by_cases h1:q∈S1
 ·obtain⟨x,h2,h3⟩:=hv q h1 hn
  exact⟨x,h2,fun y hy=>hs y (List.mem_append_left _ (h3 y hy))⟩
 ·by_cases h2:q=p
  ·subst h2;exact⟨s,hT,hl.all⟩
  ·exact hl.vain q hq (fun hm=>by
    rcases List.mem_append.1 hm with g|g
    ·exact h1 g
    ·exact h2 (List.mem_singleton.1 g))
theorem lost_unfit {K:List Nat}{f:Nat->P}(hM:M adj T K f (fun _=>False))(hr:r ∉ K)(hn:S.Nodup)(hl:Lost adj [] S T r):¬Fit adj (r::K):=by
 rintro⟨g,h1,h2⟩
 let own:P->Nat:=fun p=>(T p).getD 0
 have hown:∀p∈S,own p∈K/\f (own p)=p/\∀q,adj (own p) q->q∈S:=by
  intro p hp
  obtain⟨s,h3,h4⟩:=hl.vain p hp (by simp)
  have e:own p=s:=by simp[own,h3]
  obtain⟨h5,h6⟩:=hM.inv p s (fun x=>x) h3
  rw[e];exact⟨h5,h6,h4⟩
 have hnd:(r::S.map own).Nodup:=by
  rw[List.nodup_cons]
  refine⟨fun hm=>?_,map_nodup (fun a ha b hb e=>?_) hn⟩
  ·obtain⟨p,hp,e⟩:=List.mem_map.1 hm
   exact hr (by rw[<-e];exact (hown p hp).1)
  ·rw[<-(hown a ha).2.1,e,(hown b hb).2.1]
 have hsub:∀x∈r::S.map own,x∈r::K/\∀q,adj x q->q∈S:=by
  intro x hx
  rcases List.mem_cons.1 hx with e|hm
  ·rw[e];exact⟨List.mem_cons_self,hl.all⟩
  ·obtain⟨p,hp,e⟩:=List.mem_map.1 hm
   rw[<-e];exact⟨List.mem_cons_of_mem _ (hown p hp).1,(hown p hp).2.2⟩
 have hnd2:((r::S.map own).map g).Nodup:=map_nodup (fun a ha b hb e=>h2 a (hsub a ha).1 b (hsub b hb).1 e) hnd
 have:=nodup_le hnd2 (m:=S) (fun y hy=>by
  obtain⟨x,hx,e⟩:=List.mem_map.1 hy
  rw[<-e];exact (hsub x hx).2 _ (h1 x (hsub x hx).1))
 simp at this
 omega
end
def FitC {C:Type} [DecidableEq C](adj:Nat->C->Prop)(cap:C->Nat)(K:List Nat):Prop:=∃f:Nat->C,(∀r∈K,adj r (f r))/\∀c,(K.filter fun r=>decide (f r=c)).length<=cap c
theorem idx_lt {α:Type} [DecidableEq α]{a:α}{l:List α}(h:a∈l):l.idxOf a<l.length:=List.idxOf_lt_length_of_mem h
theorem fit_iff {C:Type} [DecidableEq C]{adjC:Nat->C->Prop}{adj:Nat->C×Nat->Prop}{N:C->List Nat}(hN:∀c,(N c).Nodup){K:List Nat}(hK:K.Nodup)(ha:∀r∈K,∀c n,adj r (c,n) ↔ adjC r c/\n∈N c) :
  Fit adj K ↔ FitC adjC (fun c=>(N c).length) K:=by
 constructor
 ·rintro⟨f,h1,h2⟩
  refine⟨fun r=>(f r).1,fun r hr=>((ha r hr _ _).1 (h1 r hr)).1,fun c=>?_⟩
  have:=nodup_le (l:=(K.filter fun r=>decide ((f r).1=c)).map fun r=>(f r).2) (m:=N c) (map_nodup (fun a hA b hB e=>?_) (hK.filter _)) (fun n hn=>?_)
  ·simpa using this
  ·obtain⟨a1,a2⟩:=List.mem_filter.1 hA
   obtain⟨b1,b2⟩:=List.mem_filter.1 hB
   exact h2 a a1 b b1 (Prod.ext ((of_decide_eq_true a2).trans (of_decide_eq_true b2).symm) e)
  ·obtain⟨a,hA,e⟩:=List.mem_map.1 hn
   obtain⟨a1,a2⟩:=List.mem_filter.1 hA
   have:=((ha a a1 _ _).1 (h1 a a1)).2
   rw[of_decide_eq_true a2] at this
   rw[<-e];exact this
 ·rintro⟨f,h1,h2⟩
  let i:Nat->Nat:=fun r=>(K.filter fun s=>decide (f s=f r)).idxOf r
  have hi:∀r∈K,r∈K.filter fun s=>decide (f s=f r):=fun r hr=>List.mem_filter.2 ⟨hr,decide_eq_true rfl⟩
  have hlt:∀r∈K,i r<(N (f r)).length:=fun r hr=>Nat.lt_of_lt_of_le (idx_lt (hi r hr)) (h2 (f r))
  refine⟨fun r=>(f r,(N (f r)).getD (i r) 0),fun r hr=>(ha r hr _ _).2 ⟨h1 r hr,?_⟩,fun r hr s hs e=>?_⟩
  ·rw[List.getD_eq_getElem?_getD,List.getElem?_eq_getElem (hlt r hr)]
   exact List.getElem_mem _
  ·simp only[Prod.mk.injEq] at e
   obtain⟨e1,e2⟩:=e
   have hs':i s<(N (f r)).length:=by rw[e1];exact hlt s hs
   rw[<-e1,List.getD_eq_getElem?_getD,List.getD_eq_getElem?_getD,List.getElem?_eq_getElem (hlt r hr),List.getElem?_eq_getElem hs'] at e2
   have e3:i r=i s:=(List.getElem_inj (hN (f r))).1 e2
   have m1:=hi r hr
   have m2:=hi s hs
   have e4:(K.filter fun x=>decide (f x=f s))=K.filter fun x=>decide (f x=f r):=by rw[e1]
   have g1:=List.getElem_idxOf (idx_lt m1)
   have g2:=List.getElem_idxOf (idx_lt m2)
   have g3:(K.filter fun x=>decide (f x=f r))[i r]?=some r:=by rw[List.getElem?_eq_getElem (idx_lt m1)];exact congrArg some g1
   have g4:(K.filter fun x=>decide (f x=f s))[i s]?=some s:=by rw[List.getElem?_eq_getElem (idx_lt m2)];exact congrArg some g2
   rw[e4,<-e3,g3] at g4
   cases g4;rfl
end Go.Mt
/- M2: matchings, with no program in sight: the reels that stand in the way of one; what is left least. -/
namespace Go.Mt
variable {P:Type} [DecidableEq P]
theorem filter_lt {α:Type}{p q:α->Bool}:∀{l:List α},(∀x∈l,q x=true->p x=true)->(∃a∈l,p a=true/\q a=false)->(l.filter q).length<(l.filter p).length
 | [],_,⟨a,ha,_⟩=>by cases ha
 | x::l,hs,⟨a,ha,h1,h2⟩=>by
  have hle:(l.filter q).length<=(l.filter p).length:=by
   clear ha
   have hs':∀y∈l,q y=true->p y=true:=fun y hy=>hs y (List.mem_cons_of_mem _ hy)
   clear hs
   induction l with
   | nil=>simp
   | cons y l ih =>
    have h3:=ih (fun z hz=>hs' z (List.mem_cons_of_mem _ hz))
    have h4:=hs' y List.mem_cons_self
    cases hq:q y <;> cases hp:p y <;> simp[hq,hp] at h4 ⊢ <;> omega
  rcases List.mem_cons.1 ha with e|g
  ·subst e
   simp[h1,h2];omega
  ·have h3:=filter_lt (p:=p) (q:=q) (l:=l) (fun y hy=>hs y (List.mem_cons_of_mem _ hy)) ⟨a,g,h1,h2⟩
   have h4:=hs x List.mem_cons_self
   cases hq:q x <;> cases hp:p x <;> simp[hq,hp] at h4 ⊢ <;> omega
open Classical in
theorem kuhn {adj:Nat->P->Prop}(U:List P)(hU:∀r p,adj r p->p∈U):∀(n:Nat)(S:List P)(T:P->Option Nat)(r:Nat),S.Nodup->(U.filter fun p=>decide (p ∉ S)).length<=n →
  (∃T',Won adj S T T' r)\/∃S',(∀p∈S,p∈S')/\S'.Nodup/\Lost adj S S' T r:=by
 intro n
 induction n with
 | zero =>
  intro S T r hn hle
  refine .inr ⟨S,fun _ h=>h,hn,fun p hp=>?_,vain_refl⟩
  have:=List.eq_nil_of_length_eq_zero (Nat.le_zero.1 hle)
  rw[List.filter_eq_nil_iff] at this
  have:=this p (hU r p hp)
  simpa using this
 | succ n ih =>
  intro S T r hn hle
  have key:∀ps:List P,(∀p∈ps,adj r p)->∀S1:List P,(∀p∈S,p∈S1)->S1.Nodup->Vain adj S S1 T->(∃T',Won adj S T T' r)\/∃S',(∀p∈S1,p∈S')/\S'.Nodup/\Vain adj S S' T/\∀p∈ps,p∈S':=by
   intro ps
   induction ps with
   | nil=>intro _ S1 _ h2 h3;exact .inr ⟨S1,fun _ h=>h,h2,h3,fun _ h=>by cases h⟩
   | cons p ps ihp =>
    intro hps S1 h1 h2 h3
    have hps':∀q∈ps,adj r q:=fun q hq=>hps q (List.mem_cons_of_mem _ hq)
    by_cases hp:p∈S1
    ·rcases ihp hps' S1 h1 h2 h3 with g|⟨S',g1,g2,g3,g4⟩
     ·exact .inl g
     ·refine .inr ⟨S',g1,g2,g3,fun q hq=>?_⟩
      rcases List.mem_cons.1 hq with e|g
      ·rw[e];exact g1 p hp
      ·exact g4 q g
    have ha:=hps p List.mem_cons_self
    cases hT:T p with
    | none=>exact .inl ⟨_,(won_free ha hp hT).anti h1⟩
    | some s =>
     have hlt:(U.filter fun q=>decide (q ∉ S1++[p])).length<(U.filter fun q=>decide (q ∉ S)).length:=by
      refine filter_lt (fun q _ hq=>?_) ⟨p,hU r p ha,?_,?_⟩
      ·have:=of_decide_eq_true hq
       exact decide_eq_true fun h=>this (List.mem_append_left _ (h1 q h))
      ·exact decide_eq_true fun h=>hp (h1 p h)
      ·exact decide_eq_false fun h=>h (List.mem_append_right _ List.mem_cons_self)
     have hn2:(S1++[p]).Nodup:=by
      rw[List.nodup_append]
      refine⟨h2,by simp,fun a ha b hb=>?_⟩
      rw[List.mem_singleton.1 hb]
      exact fun e=>hp (by rw[<-e];exact ha)
     rcases ih (S1++[p]) T s hn2 (by omega) with ⟨T',hw⟩|⟨S3,g1,g2,g3⟩
     ·exact .inl ⟨_,(won_move ha hp hT hw).anti h1⟩
     ·have h3':=vain_step h3 hT g1 g3
      have h13:∀q∈S1,q∈S3:=fun q hq=>g1 q (List.mem_append_left _ hq)
      rcases ihp hps' S3 (fun q hq=>h13 q (h1 q hq)) g2 h3' with g|⟨S',k1,k2,k3,k4⟩
      ·exact .inl g
      ·refine .inr ⟨S',fun q hq=>k1 q (h13 q hq),k2,k3,fun q hq=>?_⟩
       rcases List.mem_cons.1 hq with e|g
       ·rw[e];exact k1 p (g1 p (List.mem_append_right _ List.mem_cons_self))
       ·exact k4 q g
  rcases key (U.filter fun p=>decide (adj r p)) (fun p hp=>of_decide_eq_true (List.mem_filter.1 hp).2) S (fun _ h=>h) hn vain_refl with g|⟨S',g1,g2,g3,g4⟩
  ·exact .inl g
  ·exact .inr ⟨S',g1,g2,fun p hp=>g4 p (List.mem_filter.2 ⟨hU r p hp,decide_eq_true hp⟩),g3⟩
def Clo (adj:Nat->P->Prop)(f:Nat->P)(K:List Nat)(r:Nat)(D:Nat->Prop):Prop:=(∀d,D d->d∈K)/\∀x,(x=r\/D x)->∀p,adj x p->∃d,D d/\f d=p
def Inj (f:Nat->P)(K:List Nat):Prop:=∀r∈K,∀s∈K,f r=f s->r=s
section
variable {adj:Nat->P->Prop}{f:Nat->P}{K:List Nat}{r:Nat}
theorem clo_of_unfit (U:List P)(hU:∀r p,adj r p->p∈U)(ha:∀r∈K,adj r (f r))(hi:Inj f K)(hr:r ∉ K)(hn:¬Fit adj (r::K)):∃D,Clo adj f K r D:=by
 classical
 let T:P->Option Nat:=fun p=>K.find? fun k=>decide (f k=p)
 have hinv:∀p k,T p=some k->k∈K/\f k=p:=fun p k h=>⟨List.mem_of_find?_eq_some h,of_decide_eq_true (List.find?_some (p:=fun k=>decide (f k=p)) h)⟩
 have hM:M adj T K f (fun _=>False):=by
  refine⟨fun k hk=>⟨?_,fun h=>h⟩,ha,fun p k _ h=>hinv p k h⟩
  cases hq:T (f k) with
  | none =>
   have:=List.find?_eq_none.1 hq k hk
   simp at this
  | some s =>
   obtain⟨h1,h2⟩:=hinv _ _ hq
   rw[hi s h1 k hk h2]
 rcases kuhn U hU _ [] T r (by simp) (Nat.le_refl _) with ⟨T',hw⟩|⟨S',_,_,hl⟩
 ·obtain⟨f',hM'⟩:=hw.now K f _ hM hr (fun _ h=>h.elim)
  exact absurd hM'.fit hn
 ·refine⟨fun k=>∃p∈S',T p=some k,fun d ⟨p,_,h⟩=>(hinv p d h).1,?_⟩
  have key:∀p∈S',∃d,(∃q∈S',T q=some d)/\f d=p:=by
   intro p hp
   obtain⟨s,h1,_⟩:=hl.vain p hp (by simp)
   exact⟨s,⟨p,hp,h1⟩,(hinv p s h1).2⟩
  rintro x (rfl|⟨q,hq,hx⟩) p hp
  ·exact key p (hl.all p hp)
  ·obtain⟨s,h1,h2⟩:=hl.vain q hq (by simp)
   rw[hx] at h1;cases h1
   exact key p (h2 p hp)
theorem clo_unfit {K':List Nat}{D:Nat->Prop}(hK:K.Nodup)(hc:Clo adj f K r D)(hr:r ∉ K)(hs:∀d,D d->d∈K'):¬Fit adj (r::K'):=by
 classical
 rintro⟨g,h1,h2⟩
 let L:=K.filter fun k=>decide (D k)
 have hL:∀x,x∈L ↔ D x:=fun x=>by
  constructor
  ·intro h;exact of_decide_eq_true (List.mem_filter.1 h).2
  ·intro h;exact List.mem_filter.2 ⟨hc.1 x h,decide_eq_true h⟩
 have hsub:∀x∈r::L,x∈r::K':=fun x hx=>by
  rcases List.mem_cons.1 hx with e|g
  ·rw[e];exact List.mem_cons_self
  ·exact List.mem_cons_of_mem _ (hs x ((hL x).1 g))
 have hnd:(r::L).Nodup:=by
  rw[List.nodup_cons]
  exact⟨fun h=>hr (List.mem_filter.1 h).1,hK.filter _⟩
 have:=nodup_le (l:=(r::L).map g) (m:=L.map f) (map_nodup (fun a ha b hb e=>h2 a (hsub a ha) b (hsub b hb) e) hnd) (fun p hp=>by
  obtain⟨x,hx,e⟩:=List.mem_map.1 hp
  obtain⟨d,hd,e2⟩:=hc.2 x (by
   rcases List.mem_cons.1 hx with e|g
   ·exact .inl e
   ·exact .inr ((hL x).1 g)) p (by rw[<-e];exact h1 x (hsub x hx))
  exact List.mem_map.2 ⟨d,(hL d).2 hd,e2⟩)
 simp at this
 omega
abbrev out1 (K:List Nat)(k:Nat):List Nat:=K.filter fun x=>decide (x≠k)
theorem mem_out1 {k x:Nat}:x∈out1 K k ↔ x∈K/\x≠k:=by simp[out1]
theorem fit_without (U:List P)(hU:∀r p,adj r p->p∈U)(hK:K.Nodup)(ha:∀r∈K,adj r (f r))(hi:Inj f K)(hr:r ∉ K){k:Nat}:Fit adj (r::out1 K k) ↔ ∀D,Clo adj f K r D->D k:=by
 constructor
 ·intro hf D hc
  refine Classical.byContradiction fun hk=>?_
  exact clo_unfit hK hc hr (fun d hd=>mem_out1.2 ⟨hc.1 d hd,fun e=>hk (by rw[<-e];exact hd)⟩) hf
 ·intro hall
  refine Classical.byContradiction fun hn=>?_
  obtain⟨D,h1,h2⟩:=clo_of_unfit (K:=out1 K k) (f:=f) U hU (fun x hx=>ha x (mem_out1.1 hx).1) (fun x hx y hy=>hi x (mem_out1.1 hx).1 y (mem_out1.1 hy).1) (fun h=>hr (mem_out1.1 h).1) hn
  have:=hall D ⟨fun d hd=>(mem_out1.1 (h1 d hd)).1,h2⟩
  exact (mem_out1.1 (h1 k this)).2 rfl
def By (adj:Nat->P->Prop)(K:List Nat)(r:Nat):Nat->Prop:=fun k=>k∈K/\Fit adj (r::out1 K k)
theorem by_clo (U:List P)(hU:∀r p,adj r p->p∈U)(hK:K.Nodup)(ha:∀r∈K,adj r (f r))(hi:Inj f K)(hr:r ∉ K)(hn:¬Fit adj (r::K)):Clo adj f K r (By adj K r):=by
 refine⟨fun d hd=>hd.1,fun x hx p hp=>?_⟩
 obtain⟨D0,hc0⟩:=clo_of_unfit U hU ha hi hr hn
 have hin:∀D,Clo adj f K r D->x=r\/D x:=fun D hc=>hx.imp id fun h=>(fit_without U hU hK ha hi hr).1 h.2 D hc
 obtain⟨d,h1,h2⟩:=hc0.2 x (hin D0 hc0) p hp
 refine⟨d,⟨hc0.1 d h1,(fit_without U hU hK ha hi hr).2 fun D hc=>?_⟩,h2⟩
 obtain⟨d',h3,h4⟩:=hc.2 x (hin D hc) p hp
 rw[hi d (hc0.1 d h1) d' (hc.1 d' h3) (h2.trans h4.symm)]
 exact h3
theorem clo_count {D:Nat->Prop}{L:List Nat}{N:List P}(hc:Clo adj f K r D)(ha:∀r∈K,adj r (f r))(hi:Inj f K)(hL:L.Nodup)(hLD:∀x,x∈L ↔ D x)(hN:N.Nodup)(hNp:∀p,p∈N ↔ ∃x∈r::L,adj x p):N.length=L.length:=by
 refine Nat.le_antisymm ?_ ?_
 ·have:=nodup_le (m:=L.map f) hN (fun p hp=>by
   obtain⟨x,hx,hxp⟩:=(hNp p).1 hp
   obtain⟨d,h1,h2⟩:=hc.2 x (by
    rcases List.mem_cons.1 hx with e|g
    ·exact .inl e
    ·exact .inr ((hLD x).1 g)) p hxp
   exact List.mem_map.2 ⟨d,(hLD d).2 h1,h2⟩)
  simpa using this
 ·have:=nodup_le (l:=L.map f) (m:=N) (map_nodup (fun a hA b hB e=>hi a (hc.1 a ((hLD a).1 hA)) b (hc.1 b ((hLD b).1 hB)) e) hL) (fun p hp=>by
   obtain⟨x,hx,e⟩:=List.mem_map.1 hp
   exact (hNp p).2 ⟨x,List.mem_cons_of_mem _ hx,by rw[<-e];exact ha x (hc.1 x ((hLD x).1 hx))⟩)
  simpa using this
theorem len_split {α:Type}(p:α->Bool)(l:List α):l.length=(l.filter p).length+(l.filter fun x=>!p x).length:=by
 induction l with
 | nil=>rfl
 | cons a l ih=>cases h:p a <;> simp[h] <;> omega
def sumR (risk:Nat->Nat):List Nat->Nat
 | []=>0
 | r::l=>risk r+sumR risk l
def layers (risk:Nat->Nat)(l:List Nat):Nat->Nat
 | 0=>0
 | w+1=>layers risk l w+(l.filter fun r=>decide (w<risk r)).length
end
end Go.Mt
