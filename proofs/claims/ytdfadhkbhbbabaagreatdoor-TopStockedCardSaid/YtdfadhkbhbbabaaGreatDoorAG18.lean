/- T1: merging in place (the stable sort of the library), with no program in sight: rotations; two sorted halves. -/
import Derived.Sort.LotA
set_option linter.unusedVariables false
set_option linter.unusedSimpArgs false
namespace Go.Sort
variable {α:Type} [Inhabited α]
structure Rot (a m b:Nat)(d d':Array α):Prop where
 size:d'.size=d.size
 same:∀i,i<a\/b<=i->d'[i]! = d[i]!
 fst:∀i,i<b-m->d'[a+i]! = d[m+i]!
 snd:∀i,i<m-a->d'[a+(b-m)+i]! = d[a+i]!
structure Swr (i j n:Nat)(d d':Array α):Prop where
 size:d'.size=d.size
 same:∀k,(k<i\/i+n<=k)->(k<j\/j+n<=k)->d'[k]! = d[k]!
 left:∀k,k<n->d'[i+k]! = d[j+k]!
 right:∀k,k<n->d'[j+k]! = d[i+k]!
theorem ZSJ (i j:Nat)(d:Array α):Swr i j 0 d d:=⟨rfl,fun _ _ _=>rfl,fun _ h=>by omega,fun _ h=>by omega⟩
theorem ZR0 {i j n:Nat}{d d':Array α}(h:Swr i j n d d')(hij:i+n<j)(hj:j+n<d.size):Swr i j (n+1) d (swp d' (i+n) (j+n)):=by
 have hsz:j+n<d'.size:=by rw[h.size];exact hj
 have hsi:i+n<d'.size:=by omega
 refine⟨by rw[size_swp,h.size],fun k h1 h2=>?_,fun k hk=>?_,fun k hk=>?_⟩
 ·rw[swp_other _ _ _ _ (by omega) (by omega)];exact h.same k (by omega) (by omega)
 ·by_cases e:k=n
  ·subst e
   rw[swp_left _ _ _ hsi (by omega)];exact h.same _ (by omega) (by omega)
  ·rw[swp_other _ _ _ _ (by omega) (by omega)];exact h.left k (by omega)
 ·by_cases e:k=n
  ·subst e
   rw[swp_right _ _ _ hsz];exact h.same _ (by omega) (by omega)
  ·rw[swp_other _ _ _ _ (by omega) (by omega)];exact h.right k (by omega)
theorem ZSi {a m b j:Nat}{d d1 d2:Array α}(hj:j=b-m)(hlt:j<m-a)(ham:a<=m)(hmb:m<=b)(hs:Swr a m j d d1)(hr:Rot (a+j) m b d1 d2):Rot a m b d d2:=by
 refine⟨hr.size.trans hs.size,fun i hi=>?_,fun i hi=>?_,fun i hi=>?_⟩
 ·rw[hr.same i (by omega),hs.same i (by omega) (by omega)]
 ·rw[hr.same (a+i) (by omega)];exact hs.left i (by omega)
 ·by_cases h:i<j
  ·have h1:=hr.fst i (by omega)
   rw[show a+(b-m)+i=a+j+i by omega,h1];exact hs.right i h
  ·have h1:=hr.snd (i-j) (by omega)
   rw[show a+(b-m)+i=a+j+(b-m)+(i-j) by omega,h1,show a+j+(i-j)=a+i by omega];exact hs.same _ (by omega) (by omega)
theorem ZRV {a m b i:Nat}{d d1 d2:Array α}(hi:i=m-a)(hlt:i<b-m)(ham:a<=m)(hmb:m<=b)(hs:Swr a (b-i) i d d1)(hr:Rot a m (b-i) d1 d2):Rot a m b d d2:=by
 refine⟨hr.size.trans hs.size,fun k hk=>?_,fun k hk=>?_,fun k hk=>?_⟩
 ·rw[hr.same k (by omega),hs.same k (by omega) (by omega)]
 ·by_cases h:k<b-i-m
  ·rw[hr.fst k h];exact hs.same _ (by omega) (by omega)
  ·have h1:=hr.snd (k-(b-i-m)) (by omega)
   rw[show a+k=a+(b-i-m)+(k-(b-i-m)) by omega,h1,hs.left _ (by omega)]
   congr 1;omega
 ·rw[hr.same _ (by omega)]
  have h1:=hs.right k (by omega);rw[show a+(b-m)+k=b-i+k by omega,h1]
theorem ZTo {a m b:Nat}{d d1:Array α}(h:b-m=m-a)(ham:a<=m)(hmb:m<=b)(hs:Swr a m (m-a) d d1):Rot a m b d d1:=by
 refine⟨hs.size,fun k hk=>hs.same k (by omega) (by omega),fun k hk=>hs.left k (by omega),fun k hk=>?_⟩;rw[show a+(b-m)+k=m+k by omega];exact hs.right k hk
theorem Rot.perm {a m b:Nat}{d d':Array α}(ham:a<=m)(hmb:m<=b)(hb:b<=d.size)(h:Rot a m b d d'):PermIn a b d d':=by
 refine⟨h.size,h.same,?_⟩;rw[extract_toList d' a b (by rw[h.size];exact hb),extract_toList d a b hb];have e1:(List.range' a (b-a)).map (fun i=>d'[i]!)=(List.range' m (b-m)).map (fun i=>d[i]!)++(List.range' a (m-a)).map (fun i=>d[i]!):=by
  apply List.ext_getElem
  ·simp;omega
  ·intro k h1 h2
   have hk:k<b-a:=by simpa using h1
   rw[List.getElem_append]
   split
   ·rename_i hlt
    have hlt':k<b-m:=by simpa using hlt
    simp only[List.getElem_map,List.getElem_range',Nat.one_mul];exact h.fst k hlt'
   ·rename_i hlt
    have hlt':¬k<b-m:=by simpa using hlt
    simp only[List.getElem_map,List.getElem_range',Nat.one_mul,List.length_map,List.length_range'];have:=h.snd (k-(b-m)) (by omega);rw[<-this]
    congr 1;omega
 have e2:(List.range' a (b-a)).map (fun i=>d[i]!)=(List.range' a (m-a)).map (fun i=>d[i]!)++(List.range' m (b-m)).map (fun i=>d[i]!):=by
  rw[<-List.map_append]
  congr 1
  have:=List.range'_append_1 (s:=a) (m:=m-a) (n:=b-m);rw[show a+(m-a)=m by omega,show m-a+(b-m)=b-a by omega] at this;exact this.symm
 rw[e1,e2];exact List.perm_append_comm
variable {less lt:α->α->Bool}
def ZHP (less lt:α->α->Bool)(a m b:Nat)(d:Array α):Prop:=∀i j,a<=i->i<m->m<=j->j<b->less d[j]! d[i]! = lt d[j]! d[i]!
def ZBt (lt:α->α->Bool)(a b:Nat)(d d':Array α):Prop:=PermIn a b d d'/\SortedIn lt a b d'
structure Cut (lt:α->α->Bool)(a m b start fin:Nat)(d:Array α):Prop where
 h1:∀i j,a<=i->i<start->fin<=j->j<b->lt d[j]! d[i]! = false
 h2:∀i j,start<=i->i<m->m<=j->j<fin->lt d[j]! d[i]! = true
theorem ZVX {a m b lo hi start p:Nat}{d:Array α}(hS:SWO lt)(hA:ZHP less lt a m b d)(hL:SortedIn lt a m d)(hR:SortedIn lt m b d)(h1:lo<=start)(h2:start<=hi)(hp:p+1=(a+b) / 2+m)(ham:a<m)(hmb:m<b)
  (hlo:((a+b) / 2<m/\lo=(a+b) / 2+m-b/\hi=(a+b) / 2)\/(m<=(a+b) / 2/\lo=a/\hi=m))
  (k1:∀c,lo<=c->c<start->less d[p-c]! d[c]! = false) (k2:∀c,start<=c->c<hi->less d[p-c]! d[c]! = true):Cut lt a m b start (p+1-start) d:=by
 have hno:∀x y z,lt x y=false->lt y z=false->lt x z=false:=hS.ntrans
 have hLe:∀i j,a<=i->i<=j->j<m->lt d[j]! d[i]! = false:=fun i j q1 q2 q3=>by
  rcases Nat.lt_or_ge i j with g|g
  ·exact hL i j q1 g q3
  ·have:i=j:=by omega
   subst this;exact hS.irrefl _
 have hRe:∀i j,m<=i->i<=j->j<b->lt d[j]! d[i]! = false:=fun i j q1 q2 q3=>by
  rcases Nat.lt_or_ge i j with g|g
  ·exact hR i j q1 g q3
  ·have:i=j:=by omega
   subst this;exact hS.irrefl _
 constructor
 ·intro i j q1 q2 q3 q4
  rcases Nat.lt_or_ge lo start with g|g
  ·have e:=k1 (start-1) (by omega) (by omega)
   rw[hA (start-1) (p-(start-1)) (by omega) (by omega) (by omega) (by omega)] at e;have e1:=hLe i (start-1) q1 (by omega) (by omega);have e2:=hRe (p-(start-1)) j (by omega) (by omega) q4;exact hno _ _ _ e2 (hno _ _ _ e e1)
  ·exfalso;omega
 ·intro i j q1 q2 q3 q4
  rcases Nat.lt_or_ge start hi with g|g
  ·have e:=k2 start (Nat.le_refl _) g
   rw[hA start (p-start) (by omega) (by omega) (by omega) (by omega)] at e;have e1:=hLe start i (by omega) q1 q2;have e2:=hRe j (p-start) q3 (by omega) (by omega)
   cases hq:lt d[j]! d[i]! with
   | true=>rfl
   | false =>
    have s1:=hno _ _ _ e2 hq;have s2:=hno _ _ _ s1 e1;rw[e] at s2;cases s2
  ·exfalso;omega
theorem ZDF {a b:Nat}{d d':Array α}(h:SortedIn lt a b d)(he:∀i,a<=i->i<b->d'[i]! = d[i]!):SortedIn lt a b d':=fun i j h1 h2 h3=>by
 rw[he i h1 (by omega),he j (by omega) h3];exact h i j h1 h2 h3
theorem ZQK {a mid b:Nat}{d1 d2 d3:Array α}(hab:a<=mid)(hmb:mid<=b)(hb:b<=d1.size)(hsep:∀i j,a<=i->i<mid->mid<=j->j<b->lt d1[j]! d1[i]! = false)
  (m1:ZBt lt a mid d1 d2) (m2:ZBt lt mid b d2 d3):ZBt lt a b d1 d3:=by
 have hb2:b<=d2.size:=by rw[m1.1.1];exact hb
 have p1:=permIn_mono (α:=α) d1 d2 a mid a b (Nat.le_refl _) hmb hb m1.1;have p2:=permIn_mono (α:=α) d2 d3 mid b a b hab (Nat.le_refl _) hb2 m2.1;refine⟨permIn_trans _ _ _ _ _ p1 p2,fun i j h1 h2 h3=>?_⟩
 rcases Nat.lt_or_ge j mid with g|g
 ·rw[m2.1.2.1 i (by omega),m2.1.2.1 j (by omega)];exact m1.2 i j h1 h2 g
 rcases Nat.lt_or_ge i mid with g2|g2
 ·rw[m2.1.2.1 i (by omega)]
  refine permIn_all (α:=α) d2 d3 mid b (fun y=>lt y d2[i]! = false) hb2 m2.1 (fun k k1 k2=>?_) j g h3;rw[m1.1.2.1 k (by omega)];exact permIn_all (α:=α) d1 d2 a mid (fun x=>lt d1[k]! x=false) (by omega) m1.1 (fun l l1 l2=>hsep l k l1 l2 k1 k2) i h1 g2
 ·exact m2.2 i j g2 h2 h3
theorem ZL0 {a m b i:Nat}{d d':Array α}(hS:SWO lt)(hm:m=a+1)(hi1:m<=i)(hi2:i<=b)(hb:b<=d.size)(hA:ZHP less lt a m b d)(hR:SortedIn lt m b d)
  (k1:∀c,m<=c->c<i->less d[c]! d[a]! = true) (k2:∀c,i<=c->c<b->less d[c]! d[a]! = false) (hr:Rot a m i d d'):ZBt lt a b d d':=by
 refine⟨permIn_mono (α:=α) d d' a i a b (Nat.le_refl _) hi2 hb (hr.perm (by omega) hi1 (by omega)),?_⟩;have hget:∀k,a<=k->k<b->d'[k]! = if k<i-1 then d[k+1]! else if k=i-1 then d[a]! else d[k]!:=by
  intro k q1 q2
  split
  ·have:=hr.fst (k-a) (by omega)
   rw[show a+(k-a)=k by omega] at this;rw[this];congr 1;omega
  ·split
   ·have:=hr.snd 0 (by omega)
    rw[show a+(i-m)+0=k by omega,Nat.add_zero] at this;exact this
   ·exact hr.same k (by omega)
 intro p q h1 h2 h3;rw[hget p h1 (by omega),hget q (by omega) h3]
 by_cases c1:p<i-1
 ·rw[if_pos c1]
  by_cases c2:q<i-1
  ·rw[if_pos c2];exact hR _ _ (by omega) (by omega) (by omega)
  ·rw[if_neg c2]
   by_cases c3:q=i-1
   ·rw[if_pos c3]
    have:=k1 (p+1) (by omega) (by omega);rw[hA a (p+1) (by omega) (by omega) (by omega) (by omega)] at this
    cases hq:lt d[a]! d[p+1]! with
    | false=>rfl
    | true=>have:=hS.trans _ _ _ this hq;rw[hS.irrefl] at this;cases this
   ·rw[if_neg c3];exact hR _ _ (by omega) (by omega) (by omega)
 ·rw[if_neg c1,if_neg (by omega:¬q<i-1),if_neg (by omega:¬q=i-1)]
  by_cases c3:p=i-1
  ·rw[if_pos c3]
   have:=k2 q (by omega) h3;rw[hA a q (by omega) (by omega) (by omega) h3] at this;exact this
  ·rw[if_neg c3];exact hR _ _ (by omega) (by omega) (by omega)
theorem ZMa {a m b i:Nat}{d d':Array α}(hS:SWO lt)(hm:b=m+1)(hi1:a<=i)(hi2:i<=m)(hb:b<=d.size)(hA:ZHP less lt a m b d)(hL:SortedIn lt a m d)
  (k1:∀c,a<=c->c<i->less d[m]! d[c]! = false) (k2:∀c,i<=c->c<m->less d[m]! d[c]! = true) (hr:Rot i m b d d'):ZBt lt a b d d':=by
 refine⟨permIn_mono (α:=α) d d' i b a b hi1 (Nat.le_refl _) hb (hr.perm hi2 (by omega) hb),?_⟩;have hget:∀k,a<=k->k<b->d'[k]! = if k<i then d[k]! else if k=i then d[m]! else d[k-1]!:=by
  intro k q1 q2
  split
  ·exact hr.same k (by omega)
  ·split
   ·have:=hr.fst 0 (by omega)
    rename_i e;subst e
    simpa using this
   ·have:=hr.snd (k-i-1) (by omega)
    rw[show i+(b-m)+(k-i-1)=k by omega] at this;rw[this];congr 1;omega
 intro p q h1 h2 h3;rw[hget p h1 (by omega),hget q (by omega) h3]
 by_cases c1:p<i
 ·rw[if_pos c1]
  by_cases c2:q<i
  ·rw[if_pos c2];exact hL _ _ (by omega) (by omega) (by omega)
  ·rw[if_neg c2]
   by_cases c3:q=i
   ·rw[if_pos c3]
    have:=k1 p h1 c1;rw[hA p m h1 (by omega) (by omega) (by omega)] at this;exact this
   ·rw[if_neg c3];exact hL _ _ (by omega) (by omega) (by omega)
 ·rw[if_neg c1,if_neg (by omega:¬q<i),if_neg (by omega:¬q=i)]
  by_cases c3:p=i
  ·rw[if_pos c3]
   have:=k2 (q-1) (by omega) (by omega);rw[hA (q-1) m (by omega) (by omega) (by omega) (by omega)] at this
   cases hq:lt d[q-1]! d[m]! with
   | false=>rfl
   | true=>have:=hS.trans _ _ _ this hq;rw[hS.irrefl] at this;cases this
  ·rw[if_neg c3];exact hL _ _ (by omega) (by omega) (by omega)
theorem ZQ9 {a m b start fin:Nat}{d d1:Array α}(hS:SWO lt)(h1:a<=start)(h2:start<=m)(h3:m<=fin)(h4:fin<=b)(hb:b<=d.size)(hA:ZHP less lt a m b d)(hL:SortedIn lt a m d)(hR:SortedIn lt m b d)(hC:Cut lt a m b start fin d)(hr:Rot start m fin d d1) :
  (ZHP less lt a start (start+(fin-m)) d1/\SortedIn lt a start d1/\SortedIn lt start (start+(fin-m)) d1)/\(ZHP less lt (start+(fin-m)) fin b d1/\SortedIn lt (start+(fin-m)) fin d1/\SortedIn lt fin b d1) ∧
   ∀i j,a<=i->i<start+(fin-m)->start+(fin-m)<=j->j<b->lt d1[j]! d1[i]! = false:=by
 have g1:∀i,i<start->d1[i]! = d[i]!:=fun i hi=>hr.same i (.inl hi)
 have g2:∀i,start<=i->i<start+(fin-m)->d1[i]! = d[m+(i-start)]!:=fun i q1 q2=>by
  have:=hr.fst (i-start) (by omega);rw[show start+(i-start)=i by omega] at this;exact this
 have g3:∀i,start+(fin-m)<=i->i<fin->d1[i]! = d[i-(fin-m)]!:=fun i q1 q2=>by
  have:=hr.snd (i-(start+(fin-m))) (by omega);rw[show start+(fin-m)+(i-(start+(fin-m)))=i by omega] at this;rw[this];congr 1;omega
 have g4:∀i,fin<=i->d1[i]! = d[i]!:=fun i hi=>hr.same i (.inr hi);refine⟨⟨fun i j q1 q2 q3 q4=>?_,fun i j q1 q2 q3=>?_,fun i j q1 q2 q3=>?_⟩,⟨fun i j q1 q2 q3 q4=>?_,fun i j q1 q2 q3=>?_,fun i j q1 q2 q3=>?_⟩,fun i j q1 q2 q3 q4=>?_⟩
 ·rw[g1 i q2,g2 j q3 q4];exact hA _ _ q1 (by omega) (by omega) (by omega)
 ·rw[g1 i (by omega),g1 j q3];exact hL _ _ q1 q2 (by omega)
 ·rw[g2 i q1 (by omega),g2 j (by omega) q3];exact hR _ _ (by omega) (by omega) (by omega)
 ·rw[g3 i q1 q2,g4 j q3];exact hA _ _ (by omega) (by omega) (by omega) q4
 ·rw[g3 i q1 (by omega),g3 j (by omega) q3];exact hL _ _ (by omega) (by omega) (by omega)
 ·rw[g4 i q1,g4 j (by omega)];exact hR _ _ (by omega) q2 q3
 ·have asym:∀x y,lt x y=true->lt y x=false:=fun x y h=>by
   cases hq:lt y x with
   | false=>rfl
   | true=>have:=hS.trans _ _ _ h hq;rw[hS.irrefl] at this;cases this
  by_cases c1:i<start
  ·rw[g1 i c1]
   by_cases c2:j<fin
   ·rw[g3 j q3 c2];exact hL _ _ q1 (by omega) (by omega)
   ·rw[g4 j (by omega)];exact hC.h1 _ _ q1 c1 (by omega) q4
  ·rw[g2 i (by omega) q2]
   by_cases c2:j<fin
   ·rw[g3 j q3 c2];exact asym _ _ (hC.h2 _ _ (by omega) (by omega) (by omega) (by omega))
   ·rw[g4 j (by omega)];exact hR _ _ (by omega) (by omega) q4
theorem ZEw {a:Nat}:∀(j:Nat)(d:Array α),j<d.size->(∀p,a<=p->p<j->less d[j]! d[p]! = lt d[j]! d[p]!)->insInner less a j d=insInner lt a j d
 | 0,d,_,_=>by unfold insInner;rfl
 | j+1,d,hj,h=>by
  unfold insInner
  by_cases ha:j+1 > a
  ·have e:=h j (by omega) (by omega)
   have ha':decide (j+1 > a)=true:=decide_eq_true ha;rw[ha',Bool.true_and,Bool.true_and,e]
   split
   ·refine ZEw j _ (by rw[size_swp];omega) fun p hp1 hp2=>?_
    rw[swp_right _ _ _ (by omega),swp_other _ _ _ _ (by omega) (by omega)];exact h p hp1 (by omega)
   ·rfl
  ·have ha':decide (j+1 > a)=false:=decide_eq_false ha
   rw[ha',Bool.false_and,Bool.false_and];simp
theorem ZEv {a b:Nat}{d0:Array α}(hS:SWO lt)(hb:b<=d0.size)(h:∀i j,a<=i->i<j->j<b->less d0[j]! d0[i]! = lt d0[j]! d0[i]!):∀(n i:Nat)(d:Array α),b-i=n->a<i->i<=b->PermIn a i d0 d->SortedIn lt a i d->insOuter less a b i d=insOuter lt a b i d
 | 0,i,d,hn,_,hib,_,_=>by
  have:¬i<b:=by omega
  have u:∀l:α->α->Bool,insOuter l a b i d=d:=fun l=>by rw[insOuter,if_neg this]
  rw[u,u]
 | n+1,i,d,hn,hai,hib,hp,hs=>by
  have hlt:i<b:=by omega
  have u:∀l:α->α->Bool,insOuter l a b i d=insOuter l a b (i+1) (insInner l a i d):=fun l=>by rw[insOuter,if_pos hlt]
  rw[u,u]
  have e:insInner less a i d=insInner lt a i d:=ZEw i d (by rw[hp.1];omega) fun p hp1 hp2=>by
   rw[hp.2.1 i (by omega)];exact permIn_all (α:=α) d0 d a i (fun x=>less d0[i]! x=lt d0[i]! x) (by omega) hp (fun q q1 q2=>h q i q1 q2 hlt) p hp1 hp2
  rw[e];have h1:=insInner_spec hS swp_permIn permIn_refl permIn_trans a (i+1) i (by omega) i d (by omega) (Nat.le_refl _) (by rw[hp.1];omega) ⟨fun p q hap hpq hqi _ hq=>hs p q hap hpq (by omega),fun q h1 h2=>by omega⟩;have hp':=permIn_trans _ _ _ a (i+1) (permIn_mono (α:=α) d0 d a i a (i+1) (Nat.le_refl _) (by omega) (by omega) hp) h1.1;exact ZEv hS hb h n (i+1) _ (by omega) (by omega) (by omega) hp' h1.2
theorem ZE8 {a b:Nat}{d:Array α}(hS:SWO lt)(hab:a<=b)(hb:b<=d.size)(h:∀i j,a<=i->i<j->j<b->less d[j]! d[i]! = lt d[j]! d[i]!):ZBt lt a b d (insertionSort less d a b):=by
 have e:insertionSort less d a b=insertionSort lt d a b:=by
  unfold insertionSort
  by_cases hlt:a<b
  ·refine ZEv hS hb h _ (a+1) d rfl (by omega) (by omega) ?_ (fun i j q1 q2 q3=>by omega)
   exact permIn_refl _ _ _
  ·have:¬a+1<b:=by omega
   have u:∀l:α->α->Bool,insOuter l a b (a+1) d=d:=fun l=>by rw[insOuter,if_neg this]
   rw[u,u]
 rw[e];exact insertionSort_holds hS d a b hab hb
theorem ZSb {a m b:Nat}{d0 d:Array α}(ham:a<=m)(hmb:m<=b)(hb:b<=d0.size)(h:∀i j,a<=i->i<j->j<b->less d0[j]! d0[i]! = lt d0[j]! d0[i]!)(h1:(∀p:α->Prop,(∀i,a<=i->i<m->p d0[i]!)->∀i,a<=i->i<m->p d[i]!))(h2:∀p:α->Prop,(∀i,m<=i->i<b->p d0[i]!)->∀i,m<=i->i<b->p d[i]!):ZHP less lt a m b d:=by
 intro i j i1 i2 j1 j2;refine h2 (fun y=>less y d[i]! = lt y d[i]!) (fun j j1 j2=>?_) j j1 j2;exact h1 (fun x=>less d0[j]! x=lt d0[j]! x) (fun i i1 i2=>h i j i1 (by omega) j2) i i1 i2
theorem ZHC {a m b:Nat}(d:Array α)(h:a=m\/m=b)(ham:a<=m)(hmb:m<=b):Rot a m b d d:=by
 refine⟨rfl,fun _ _=>rfl,fun i hi=>?_,fun i hi=>?_⟩ <;> (congr 1;omega)
theorem ZDw {a b:Nat}{d:Array α}(h:SortedIn lt a b d):ZBt lt a b d d:=⟨permIn_refl _ _ _,h⟩
end Go.Sort
