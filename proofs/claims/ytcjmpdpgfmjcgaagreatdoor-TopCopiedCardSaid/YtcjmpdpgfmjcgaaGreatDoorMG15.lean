/- W1: contracts: the reference's with, without, sorted. -/
import Derived.Test.YtcjmpdpgfmjcgaaGreatDoorMG2
import Derived.Test.YtcjmpdpgfmjcgaaGreatDoorMG14
import Derived.Test.YtcjmpdpgfmjcgaaGreatDoorMG11
import Derived.Test.YtcjmpdpgfmjcgaaGreatDoorMG13
namespace Go.Dw
open Go Go.Dx Go.Proofs
set_option maxRecDepth 100000
theorem FreshSl.upd {h0 h h':Heap}{b o n:Nat}{sp:Option Nat}{el:TypeId}{cs cs':List Value}{op:Bool}(hF:FreshSl h0 h (.slice (some ⟨b,o,sp⟩) n n) el 1 cs n)(hU:Upd h b (.cells cs' el op) h')(hl:cs'.length=cs.length):FreshSl h0 h' (.slice (some ⟨b,o,sp⟩) n n) el 1 cs' n:=by
 rcases hF with ⟨e,_⟩|⟨b',sp',op',e,h2,h3,h4,h5⟩
 ·cases e
 ·cases e;exact .inr ⟨b,sp,op,rfl,hU.at',by omega,h4,h5⟩
def Sorted (l:List Int):Prop:=l.Pairwise (·<=·)
end Go.Dw
/- W2: the contract of the reference's order: reels by risk. -/
namespace Go.Dw
open Go Go.Dx Go.Proofs
set_option maxRecDepth 100000
def riskN (t:Task)(r:Nat):Int:=(reelAt t (r:Nat)).risk
def ByRisk (t:Task)(s:List Nat):Prop:=s.Pairwise fun a b=>riskN t b<riskN t a\/(riskN t a=riskN t b/\a<b)
end Go.Dw
/- W7: which reels are kept, with no program in sight: by risk, each that still fits. -/
namespace Go.Dw
open Go Go.Dx Go.Proofs Go.Mt
theorem perm_pw_eq {α:Type}{R:α->α->Prop}(ha:∀a b,R a b->¬R b a):∀{l s:List α},l.Perm s->l.Pairwise R->s.Pairwise R->l=s
 | [],s,hp,_,_=>(List.nil_perm.1 hp).symm
 | a::l,[],hp,_,_=>absurd hp.symm (by intro h;exact absurd (List.nil_perm.1 h) (by simp))
 | a::l,b::s,hp,h1,h2=>by
  rw[List.pairwise_cons] at h1 h2
  have e:a=b:=Classical.byContradiction fun hne=>by
   have h3:a∈s:=(List.mem_cons.1 (hp.subset List.mem_cons_self)).resolve_left hne
   have h4:b∈l:=(List.mem_cons.1 (hp.symm.subset List.mem_cons_self)).resolve_left (fun e=>hne e.symm)
   exact ha _ _ (h1.1 b h4) (h2.1 a h3)
  subst e
  rw[perm_pw_eq ha ((List.perm_cons a).1 hp) h1.2 h2.2]
theorem byRisk_eq {t:Task}{l s:List Nat}(hp:l.Perm s)(h1:ByRisk t l)(h2:ByRisk t s):l=s :=
 perm_pw_eq (fun a b h g=>by omega) hp h1 h2
abbrev fitN (t:Task)(s:List Nat):Prop:=Fit (adjB t fun _=>false) s
open Classical in
noncomputable def byN (t:Task)(kept:List Nat)(r:Nat):List Nat:=(List.range kept.length).flatMap fun i=>if fitN t (kept.take i++kept.drop (i+1)++[r]) then [kept.getD i 0] else []
open Classical in
noncomputable def stepN (t:Task)(x:List Nat×List (Nat×List Nat))(r:Nat):List Nat×List (Nat×List Nat):=if fitN t (x.1++[r]) then (x.1++[r],x.2) else (x.1,x.2++[(r,byN t x.1 r)])
noncomputable def goN (t:Task)(s:List Nat):List Nat×List (Nat×List Nat):=s.foldl (stepN t) ([],[])
theorem goN_snoc (t:Task)(s:List Nat)(r:Nat):goN t (s++[r])=stepN t (goN t s) r:=by
 unfold goN;rw[List.foldl_append];rfl
theorem snoc_ind {α:Type}{p:List α->Prop}(h0:p [])(h1:∀s x,p s->p (s++[x]))(s:List α):p s:=by
 have key:∀n (s:List α),s.length=n->p s:=by
  intro n
  induction n with
  | zero=>intro s hs;rw[List.eq_nil_of_length_eq_zero hs];exact h0
  | succ n ih =>
   intro s hs
   rcases List.eq_nil_or_concat s with rfl|⟨s',x,e⟩
   ·simp at hs
   ·rw[List.concat_eq_append] at e
    subst e
    exact h1 s' x (ih s' (by simpa using hs))
 exact key _ s rfl
theorem goN_mem (t:Task):∀(s:List Nat)(r:Nat),r∈s ↔ r∈(goN t s).1\/r∈(goN t s).2.map Prod.fst:=by
 refine snoc_ind (fun r=>by simp[goN]) (fun s x ih r=>?_)
 ·rw[goN_snoc,List.mem_append,ih r]
  unfold stepN
  split
  ·simp only[List.mem_append,List.mem_singleton];exact⟨fun h=>by rcases h with (h|h)|h <;> simp[h],fun h=>by rcases h with (h|h)|h <;> simp[h]⟩
  ·simp only[List.map_append,List.map_cons,List.map_nil,List.mem_append,List.mem_singleton];exact⟨fun h=>by rcases h with (h|h)|h <;> simp[h],fun h=>by rcases h with h|h|h <;> simp[h]⟩
theorem goN_fit (t:Task)(s:List Nat):fitN t (goN t s).1:=by
 refine snoc_ind (p:=fun s=>fitN t (goN t s).1) ⟨fun _=>(0,0,0),(fun _ h=>nomatch h),(fun _ h=>nomatch h)⟩ (fun s x ih=>?_) s
 ·rw[goN_snoc]
  unfold stepN
  split
  ·rename_i h;exact h
  ·exact ih
theorem goN_sub (t:Task)(s:List Nat):(goN t s).1.Sublist s:=by
 refine snoc_ind (p:=fun s=>(goN t s).1.Sublist s) List.Sublist.slnil (fun s x ih=>?_) s
 ·rw[goN_snoc]
  unfold stepN
  split
  ·exact ih.append (List.Sublist.refl _)
  ·exact ih.trans (List.sublist_append_left _ _)
end Go.Dw
/- W9: the turns of a plan, with no program in sight: by places that are barred, and by counts that are lowered. -/
namespace Go.Dw
open Go Go.Dx Go.Proofs Go.Mt
theorem fit_map {P Q:Type}{adj:Nat->P->Prop}{adj':Nat->Q->Prop}{K:List Nat}(f:Q->P)(g:P->Q)(h:∀r q,adj' r q ↔ adj r (f q))(hfg:∀r p,adj r p->f (g p)=p)(hgf:∀q,g (f q)=q):Fit adj' K ↔ Fit adj K:=by
 constructor
 ·rintro⟨F,h1,h2⟩
  refine⟨fun r=>f (F r),fun r hr=>(h r _).1 (h1 r hr),fun r hr s hs e=>h2 r hr s hs ?_⟩
  rw[<-hgf (F r),<-hgf (F s)];exact congrArg g e
 ·rintro⟨F,h1,h2⟩
  refine⟨fun r=>g (F r),fun r hr=>(h r _).2 ?_,fun r hr s hs e=>h2 r hr s hs ?_⟩
  ·rw[hfg r _ (h1 r hr)];exact h1 r hr
  ·rw[<-hfg r _ (h1 r hr),<-hfg s _ (h1 s hs)];exact congrArg f e
theorem fitC_mono {C:Type} [DecidableEq C]{adj adj':Nat->C->Prop}{cap cap':C->Nat}{K:List Nat}(ha:∀r∈K,∀c,adj r c->adj' r c)(hc:∀r∈K,∀c,adj r c->cap c<=cap' c)(h:FitC adj cap K):FitC adj' cap' K:=by
 obtain⟨f,h1,h2⟩:=h
 refine⟨f,fun r hr=>ha r hr _ (h1 r hr),fun c=>?_⟩
 by_cases he:∃r∈K,f r=c
 ·obtain⟨r,hr,rfl⟩:=he
  exact Nat.le_trans (h2 _) (hc r hr _ (h1 r hr))
 ·have:(K.filter fun r=>decide (f r=c))=[]:=List.filter_eq_nil_iff.2 fun r hr=>by simpa using fun e=>he ⟨r,hr,e⟩
  rw[this];exact Nat.zero_le _
def adjM (t:Task)(r:Nat)(c:Int×Int):Prop:=c.1∈(reelAt t (r:Nat)).machines/\(reelAt t (r:Nat)).ready<=c.2/\c.2<=(reelAt t (r:Nat)).due
def freeN (t:Task)(bar:Pl->Bool)(c:Int×Int):List Nat:=(List.range (capT t c.1 c.2).toNat).filter fun n=>!bar (c.1,c.2,(n:Int))
theorem freeN_nodup (t:Task)(bar:Pl->Bool)(c:Int×Int):(freeN t bar c).Nodup:=List.nodup_range.sublist List.filter_sublist
theorem mem_freeN {t:Task}{bar:Pl->Bool}{c:Int×Int}{n:Nat}:n∈freeN t bar c ↔ n<(capT t c.1 c.2).toNat/\bar (c.1,c.2,(n:Int))=false:=by simp[freeN]
theorem fit_cells {t:Task}{bar:Pl->Bool}{K:List Nat}(hK:K.Nodup):Fit (adjB t bar) K ↔ FitC (adjM t) (fun c=>(freeN t bar c).length) K:=by
 rw[<-fit_iff (adj:=fun r (q:(Int×Int)×Nat)=>adjB t bar r (q.1.1,q.1.2,(q.2:Int))) (fun c=>freeN_nodup t bar c) hK]
 ·refine (fit_map (fun q:(Int×Int)×Nat=>((q.1.1,q.1.2,(q.2:Int)):Pl)) (fun p:Pl=>((p.1,p.2.1),p.2.2.toNat)) (fun _ _=>Iff.rfl) (fun r p hp=>?_) (fun q=>?_)).symm
  ·obtain⟨m,d,n⟩:=p
   have h:=(mem_placesL.1 hp.1).2.2.2
   show (m,d,((n.toNat:Nat):Int))=(m,d,n)
   rw[Int.toNat_of_nonneg h.1]
  ·rfl
 ·rintro r _ ⟨m,d⟩ n
  rw[mem_freeN]
  simp only[adjB,mem_placesL,adjM]
  constructor
  ·rintro⟨⟨h1,h2,h3,h4,h5⟩,h6⟩;exact⟨⟨h1,h2,h3⟩,by omega,h6⟩
  ·rintro⟨⟨h1,h2,h3⟩,h4,h6⟩;exact⟨⟨h1,h2,h3,by omega,by omega⟩,h6⟩
theorem free_none (t:Task)(c:Int×Int):(freeN t (fun _=>false) c).length=(capT t c.1 c.2).toNat:=by
 unfold freeN
 show ((List.range (capT t c.1 c.2).toNat).filter fun _=>true).length=_
 rw[List.filter_eq_self.2 fun _ _=>rfl,List.length_range]
theorem fitN_cells {t:Task}{K:List Nat}(hK:K.Nodup):fitN t K ↔ FitC (adjM t) (fun c=>(capT t c.1 c.2).toNat) K:=by
 rw[fitN,fit_cells hK]
 simp only[free_none]
def lowP (d:Nat)(x:Mach):Mach:=⟨x.name,x.places.modify d (·-1)⟩
def low (u:Task)(m d:Nat):Task:=⟨u.first,u.days,u.machines.modify m (lowP d),u.reels⟩
def capM (u:Task)(m d:Nat):Int:=(u.machines.getD m noMach).places.getD d 0
theorem getD_modify {α:Type}{l:List α}{i j:Nat}{f:α->α}{x:α}:(l.modify i f).getD j x=if i=j/\j<l.length then f (l.getD j x) else l.getD j x:=by
 simp only[List.getD_eq_getElem?_getD,List.getElem?_modify]
 by_cases h:i=j
 ·subst h
  by_cases hl:i<l.length
  ·simp[hl]
  ·simp[hl]
 ·simp[h]
theorem capM_low {u:Task}{m d m' d':Nat}(hm:m<u.machines.length)(hd:d<(u.machines.getD m noMach).places.length):capM (low u m d) m' d'=if m'=m/\d'=d then capM u m d-1 else capM u m' d':=by
 unfold capM low
 rw[getD_modify]
 by_cases h:m'=m
 ·subst h
  rw[if_pos ⟨rfl,hm⟩]
  show ((u.machines.getD m' noMach).places.modify d (·-1)).getD d' 0=_
  rw[getD_modify]
  by_cases h2:d'=d
  ·subst h2;rw[if_pos ⟨rfl,hd⟩,if_pos ⟨rfl,rfl⟩]
  ·rw[if_neg (fun e=>h2 e.1.symm),if_neg (fun e=>h2 e.2)]
 ·rw[if_neg (fun e=>h e.1.symm),if_neg (fun e=>h e.1)]
theorem low_len (u:Task)(m d:Nat):(low u m d).machines.length=u.machines.length:=by simp[low]
structure Lowd (t u:Task):Prop where
 first:u.first=t.first
 days:u.days=t.days
 reels:u.reels=t.reels
 len:u.machines.length=t.machines.length
 pl:∀m,m<t.machines.length->((u.machines.getD m noMach).places.length:Int)=t.days
 cap:∀m d,0<=capM u m d/\capM u m d<=20
theorem getD_mem {α:Type}{l:List α}{i:Nat}{x:α}(h:i<l.length):l.getD i x∈l:=by rw[List.getD_eq_getElem?_getD,List.getElem?_eq_getElem h];exact List.getElem_mem h
theorem getD_out {α:Type}{l:List α}{i:Nat}{x:α}(h:l.length<=i):l.getD i x=x:=by rw[List.getD_eq_getElem?_getD,List.getElem?_eq_none h];rfl
theorem Lowd.refl {t:Task}(hV:Valid t):Lowd t t:=by
 refine⟨rfl,rfl,rfl,rfl,fun m hm=>(hV.ms _ (getD_mem hm)).1,fun m d=>?_⟩
 unfold capM
 rcases Nat.lt_or_ge m t.machines.length with hm|hm
 ·rcases Nat.lt_or_ge d (t.machines.getD m noMach).places.length with hd|hd
  ·exact (hV.ms _ (getD_mem hm)).2 _ (getD_mem hd)
  ·rw[getD_out hd];omega
 ·rw[getD_out hm];simp[noMach]
theorem Lowd.low {t u:Task}(h:Lowd t u)(hV:Valid t){m d:Nat}(hm:m<t.machines.length)(hd:d<t.days.toNat)(hc:capM u m d≠0):Lowd t (low u m d):=by
 have hp:=h.pl m hm
 have hm':m<u.machines.length:=by rw[h.len];exact hm
 have hd':d<(u.machines.getD m noMach).places.length:=by omega
 refine⟨h.first,h.days,h.reels,by rw[low_len,h.len],fun m' hm2=>?_,fun m' d'=>?_⟩
 ·show (((u.machines.modify m (lowP d)).getD m' noMach).places.length:Int)=_
  rw[getD_modify]
  split
  ·show ((((u.machines.getD m' noMach).places.modify d (·-1)).length:Nat):Int)=_
   rw[List.length_modify];exact h.pl m' hm2
  ·exact h.pl m' hm2
 ·rw[capM_low hm' hd']
  have h1:=h.cap m d
  have h2:=h.cap m' d'
  split <;> omega
theorem Lowd.valid {t u:Task}(h:Lowd t u)(hV:Valid t):Valid u:=by
 refine⟨by rw[h.first];exact hV.f0,by rw[h.first];exact hV.f1,by rw[h.days];exact hV.d0,by rw[h.days];exact hV.d1,by rw[h.first,h.days];exact hV.last,by rw[h.len];exact hV.m0,by rw[h.len];exact hV.m1,by rw[h.reels];exact hV.r1,fun x hx=>?_,fun r hr=>?_⟩
 ·obtain⟨m,hm,rfl⟩:=List.getElem_of_mem hx
  have e:u.machines.getD m noMach=u.machines[m]:=by rw[List.getD_eq_getElem?_getD,List.getElem?_eq_getElem hm];rfl
  have h1:=h.pl m (by rw[<-h.len];exact hm)
  rw[e] at h1
  refine⟨by rw[h.days];exact h1,fun n hn=>?_⟩
  obtain⟨d,hd,rfl⟩:=List.getElem_of_mem hn
  have h2:=h.cap m d
  unfold capM at h2
  rw[e] at h2
  have e2:u.machines[m].places.getD d 0=u.machines[m].places[d]:=by rw[List.getD_eq_getElem?_getD,List.getElem?_eq_getElem hd];rfl
  rw[e2] at h2;exact h2
 ·rw[h.reels] at hr
  rw[h.len,h.first,h.days]
  exact hV.rs r hr
theorem Lowd.reelAt {t u:Task}(h:Lowd t u)(r:Int):reelAt u r=reelAt t r:=by unfold Dw.reelAt;rw[h.reels]
theorem Lowd.canB {t u:Task}(h:Lowd t u)(r m d:Int):canB u r m d=canB t r m d:=by unfold Dw.canB;rw[h.reelAt,h.first]
theorem Lowd.adjM {t u:Task}(h:Lowd t u)(r:Nat)(c:Int×Int):adjM u r c ↔ adjM t r c:=by unfold Dw.adjM;rw[h.reelAt]
theorem capT_M {u:Task}{m d:Nat}:capT u m (u.first+d)=capM u m d:=by
 unfold capT capM
 rw[Int.toNat_natCast,show (u.first+(d:Int)-u.first).toNat=d by omega]
def cellsT (t:Task):List (Nat×Nat):=(List.range t.days.toNat).flatMap fun d=>(List.range t.machines.length).map fun m=>(d,m)
theorem mem_cellsT {t:Task}{c:Nat×Nat}:c∈cellsT t ↔ c.1<t.days.toNat/\c.2<t.machines.length:=by
 obtain⟨d,m⟩:=c
 simp[cellsT]
def ltC (a b:Nat×Nat):Prop:=a.1<b.1\/(a.1=b.1/\a.2<b.2)
theorem cellsT_pw (t:Task):(cellsT t).Pairwise ltC:=by
 unfold cellsT
 rw[List.pairwise_flatMap]
 refine⟨fun d _=>?_,List.pairwise_lt_range.imp fun hab x hx y hy=>?_⟩
 ·rw[List.pairwise_map];exact List.pairwise_lt_range.imp fun h=>.inr ⟨rfl,h⟩
 ·obtain⟨_,_,rfl⟩:=List.mem_map.1 hx
  obtain⟨_,_,rfl⟩:=List.mem_map.1 hy
  exact .inl hab
theorem find_sorted {α:Type}{R:α->α->Prop}{P:α->Bool}{a:α}:∀{l:List α},l.Pairwise R->a∈l->P a=true->(∀b∈l,R b a->P b=false)->l.find? P=some a
 | b::l,hp,ha,hP,hb=>by
  rw[List.pairwise_cons] at hp
  rcases List.mem_cons.1 ha with e|g
  ·rw[<-e];simp[hP]
  ·rw[List.find?_cons_of_neg (by rw[hb b List.mem_cons_self (hp.1 a g)];simp)]
   exact find_sorted hp.2 g hP fun x hx=>hb x (List.mem_cons_of_mem _ hx)
open Classical in
noncomputable def okC (u:Task)(r:Nat)(rest:List Nat)(c:Nat×Nat):Bool:=decide (canB u r c.2 c.1=true/\capM u c.2 c.1≠0/\fitN (low u c.2 c.1) rest)
open Classical in
theorem okC_iff {u:Task}{r:Nat}{rest:List Nat}{c:Nat×Nat}:okC u r rest c=true ↔ canB u r c.2 c.1=true/\capM u c.2 c.1≠0/\fitN (low u c.2 c.1) rest:=decide_eq_true_iff
noncomputable def turnC (u:Task)(r:Nat)(rest:List Nat):Option (Nat×Nat):=(cellsT u).find? (okC u r rest)
theorem turnC_some {u:Task}{r:Nat}{rest:List Nat}{d m:Nat}(hd:d<u.days.toNat)(hm:m<u.machines.length)(hk:okC u r rest (d,m)=true)(hb:∀d' m',d'<u.days.toNat->m'<u.machines.length->ltC (d',m') (d,m)->okC u r rest (d',m')=false):turnC u r rest=some (d,m) :=
 find_sorted (cellsT_pw u) (mem_cellsT.2 ⟨hd,hm⟩) hk fun b hb' hl=>hb b.1 b.2 (mem_cellsT.1 hb').1 (mem_cellsT.1 hb').2 hl
theorem turnC_none {u:Task}{r:Nat}{rest:List Nat}(hb:∀d' m',d'<u.days.toNat->m'<u.machines.length->okC u r rest (d',m')=false):turnC u r rest=none :=
 List.find?_eq_none.2 fun b hb'=>by rw[hb b.1 b.2 (mem_cellsT.1 hb').1 (mem_cellsT.1 hb').2];simp
noncomputable def turnsG (u:Task):List Nat->List Turn
 | []=>[]
 | r::rest=>match turnC u r rest with
  | none=>turnsG u rest
  | some c=>⟨r,c.2,u.first+c.1⟩::turnsG (low u c.2 c.1) rest
open Classical in
noncomputable def barL (G:List Pl)(p:Pl):Bool:=decide (p∈G)
open Classical in
noncomputable def okP (t:Task)(G:List Pl)(rest:List Nat)(p:Pl):Bool:=decide (p ∉ G/\Fit (adjB t (barL (p::G))) rest)
open Classical in
theorem okP_iff {t:Task}{G:List Pl}{rest:List Nat}{p:Pl}:okP t G rest p=true ↔ p ∉ G/\Fit (adjB t (barL (p::G))) rest:=decide_eq_true_iff
open Classical in
theorem barL_iff {G:List Pl}{p:Pl}:barL G p=true ↔ p∈G:=decide_eq_true_iff
open Classical in
theorem barL_ff {G:List Pl}{p:Pl}:barL G p=false ↔ p ∉ G:=decide_eq_false_iff_not
noncomputable def turnP (t:Task)(G:List Pl)(r:Nat)(rest:List Nat):Option Pl:=(placesL t (r:Nat)).find? (okP t G rest)
noncomputable def turnsP (t:Task)(G:List Pl):List Nat->List Turn
 | []=>[]
 | r::rest=>match turnP t G r rest with
  | none=>turnsP t G rest
  | some p=>⟨r,p.1,p.2.1⟩::turnsP t (p::G) rest
structure BarLow (t u:Task)(G:List Pl):Prop where
 low:Lowd t u
 eq:∀m d,m<t.machines.length->d<t.days.toNat->capM u m d=(freeN t (barL G) ((m:Int),t.first+(d:Int))).length
theorem BarLow.start {t:Task}(hV:Valid t):BarLow t t []:=by
 refine⟨Lowd.refl hV,fun m d hm hd=>?_⟩
 have e:barL []=fun _=>false:=by funext p;exact barL_ff.2 (by simp)
 rw[e,free_none]
 show _=((capT t (m:Int) (t.first+(d:Int))).toNat:Int)
 rw[capT_M]
 have:=((Lowd.refl hV).cap m d).1
 omega
theorem adjM_cell {t:Task}(hV:Valid t){r:Nat}(hr:r<t.reels.length){m d:Int}(h:adjM t r (m,d)):∃m' d':Nat,m=m'/\d=t.first+d'/\m'<t.machines.length/\d'<t.days.toNat:=by
 obtain⟨h1,h2,h3⟩:=h
 rw[reelAt_nat hr] at h1 h2 h3
 obtain⟨_,g1,_,g2,_⟩:=hV.rs _ (List.getElem_mem hr)
 have:=g1 m h1
 exact⟨m.toNat,(d-t.first).toNat,by omega,by omega,by omega,by omega⟩
theorem BarLow.fit {t u:Task}{G:List Pl}(h:BarLow t u G)(hV:Valid t){K:List Nat}(hK:K.Nodup)(hr:∀r∈K,r<t.reels.length):Fit (adjB t (barL G)) K ↔ fitN u K:=by
 rw[fitN_cells hK,fit_cells hK]
 have key:∀r∈K,∀c,adjM t r c->(freeN t (barL G) c).length=(capT u c.1 c.2).toNat:=by
  rintro r hrK ⟨m,d⟩ hc
  obtain⟨m',d',rfl,rfl,hm,hd⟩:=adjM_cell hV (hr r hrK) hc
  have h1:=h.eq m' d' hm hd
  have h2:capT u (m':Int) (t.first+(d':Int))=capM u m' d':=by rw[<-h.low.first];exact capT_M
  show _=(capT u (m':Int) (t.first+(d':Int))).toNat
  rw[h2,h1];rfl
 constructor
 ·exact fitC_mono (fun r _ c hc=>(h.low.adjM r c).2 hc) (fun r hrK c hc=>Nat.le_of_eq (key r hrK c hc))
 ·exact fitC_mono (fun r _ c hc=>(h.low.adjM r c).1 hc) (fun r hrK c hc=>Nat.le_of_eq (key r hrK c ((h.low.adjM r c).1 hc)).symm)
theorem filter_rem {l:List Nat}{p:Nat->Bool}{n:Nat}(hd:l.Nodup)(hn:n∈l)(hp:p n=true):(l.filter fun x=>p x && decide (x≠n)).length+1=(l.filter p).length:=by
 induction l with
 | nil=>cases hn
 | cons a l ih =>
  rw[List.nodup_cons] at hd
  rcases List.mem_cons.1 hn with e|g
  ·subst e
   have e1:(l.filter fun x=>p x && decide (x≠n))=l.filter p:=List.filter_congr fun x hx=>by
    have:x≠n:=fun e=>hd.1 (e ▸ hx)
    simp[this]
   rw[List.filter_cons,List.filter_cons,if_pos hp,if_neg (by simp),e1];rfl
  ·have hne:a≠n:=fun e=>hd.1 (e ▸ g)
   have:=ih hd.2 g
   simp only[ne_eq] at this ⊢
   rw[List.filter_cons,List.filter_cons]
   by_cases hpa:p a=true
   ·simp only[hpa,hne,Bool.true_and,not_false_eq_true,decide_true,if_true,List.length_cons];omega
   ·simp only[hpa,Bool.false_and,if_false,Bool.false_eq_true];exact this
theorem BarLow.step {t u:Task}{G:List Pl}(h:BarLow t u G)(hV:Valid t){m d:Nat}{n:Int}(hm:m<t.machines.length)(hd:d<t.days.toNat)(hn0:0<=n)(hn:n<capT t m (t.first+(d:Int)))(hG:(((m:Int),t.first+(d:Int),n):Pl) ∉ G):BarLow t (Dw.low u m d) (((m:Int),t.first+(d:Int),n)::G):=by
 have hmem:n.toNat∈freeN t (barL G) ((m:Int),t.first+(d:Int)):=mem_freeN.2 ⟨by show n.toNat<(capT t m (t.first+(d:Int))).toNat;omega,by
  show barL G ((m:Int),t.first+(d:Int),((n.toNat:Nat):Int))=false
  rw[Int.toNat_of_nonneg hn0];exact barL_ff.2 hG⟩
 have h1:=h.eq m d hm hd
 have hpos:0<(freeN t (barL G) ((m:Int),t.first+(d:Int))).length:=List.length_pos_of_mem hmem
 have hm':m<u.machines.length:=by rw[h.low.len];exact hm
 have hd':d<(u.machines.getD m noMach).places.length:=by have:=h.low.pl m hm;omega
 refine⟨h.low.low hV hm hd (by omega),fun m' d' hm2 hd2=>?_⟩
 rw[capM_low hm' hd']
 by_cases hc:m'=m/\d'=d
 ·obtain⟨rfl,rfl⟩:=hc
  rw[if_pos ⟨rfl,rfl⟩,h1]
  have e:=filter_rem (p:=fun k=>!barL G ((m':Int),t.first+(d':Int),(k:Int))) List.nodup_range (mem_freeN.1 hmem |>.1 |> List.mem_range.2) (by
   have:=(mem_freeN.1 hmem).2
   simpa using this)
  have e2:freeN t (barL (((m':Int),t.first+(d':Int),n)::G)) ((m':Int),t.first+(d':Int))=(List.range (capT t m' (t.first+(d':Int))).toNat).filter fun (k:Nat)=>(!barL G ((m':Int),t.first+(d':Int),(k:Int))) && decide (k≠n.toNat):=by
   refine List.filter_congr fun k _=>?_
   show (!barL (((m':Int),t.first+(d':Int),n)::G) ((m':Int),t.first+(d':Int),(k:Int)))=_
   have e3:((m':Int),t.first+(d':Int),(k:Int))∈(((m':Int),t.first+(d':Int),n):Pl)::G ↔ k=n.toNat\/((m':Int),t.first+(d':Int),(k:Int))∈G:=by
    rw[List.mem_cons]
    refine or_congr ?_ Iff.rfl
    simp only[Prod.mk.injEq,true_and]
    omega
   rw[Bool.eq_iff_iff,Bool.not_eq_true',Bool.and_eq_true,Bool.not_eq_true',barL_ff,barL_ff,e3,decide_eq_true_eq,not_or]
   exact and_comm
  rw[e2]
  have e':((List.range (capT t m' (t.first+(d':Int))).toNat).filter fun (k:Nat)=>(!barL G ((m':Int),t.first+(d':Int),(k:Int))) && decide (k≠n.toNat)).length+1=(freeN t (barL G) ((m':Int),t.first+(d':Int))).length:=e
  omega
 ·rw[if_neg hc,h.eq m' d' hm2 hd2]
  congr 2
  refine List.filter_congr fun k _=>?_
  show (!barL G ((m':Int),t.first+(d':Int),(k:Int)))=!barL (((m:Int),t.first+(d:Int),n)::G) ((m':Int),t.first+(d':Int),(k:Int))
  congr 1
  rw[Bool.eq_iff_iff,barL_iff,barL_iff,List.mem_cons]
  refine⟨.inr,fun x=>x.resolve_left fun e=>hc ?_⟩
  simp only[Prod.mk.injEq] at e
  omega
def ltP (a b:Pl):Prop:=a.2.1<b.2.1\/(a.2.1=b.2.1/\(a.1<b.1\/(a.1=b.1/\a.2.2<b.2.2)))
theorem pw_desc:∀{l:List Int},desc l=false->l.Pairwise (· < ·)
 | [],_=>.nil
 | [_],_=>List.pairwise_singleton _ _
 | a::b::l,h=>by
  unfold desc at h
  rw[Bool.or_eq_false_iff] at h
  have h1:=of_decide_eq_false h.1
  have h2:=pw_desc h.2
  refine List.pairwise_cons.2 ⟨fun x hx=>?_,h2⟩
  rcases List.mem_cons.1 hx with e|g
  ·omega
  ·have:=(List.pairwise_cons.1 h2).1 x g;omega
theorem placesL_pw {t:Task}{r:Int}(hd:desc (reelAt t r).machines=false):(placesL t r).Pairwise ltP:=by
 unfold placesL
 rw[List.pairwise_flatMap]
 refine⟨fun k _=>?_,List.pairwise_lt_range.imp fun {a b} hab x hx y hy=>?_⟩
 ·unfold dayP
  rw[List.pairwise_flatMap]
  refine⟨fun m _=>?_,(pw_desc hd).imp fun hab x hx y hy=>?_⟩
  ·unfold machP
   rw[List.pairwise_map]
   exact List.pairwise_lt_range.imp fun {a b} hab=>.inr ⟨rfl,.inr ⟨rfl,by show (a:Int)<(b:Int);omega⟩⟩
  ·obtain⟨_,_,rfl⟩:=List.mem_map.1 hx
   obtain⟨_,_,rfl⟩:=List.mem_map.1 hy
   exact .inr ⟨rfl,.inl hab⟩
 ·obtain⟨m,_,hx⟩:=List.mem_flatMap.1 hx
  obtain⟨m',_,hy⟩:=List.mem_flatMap.1 hy
  obtain⟨_,_,rfl⟩:=List.mem_map.1 hx
  obtain⟨_,_,rfl⟩:=List.mem_map.1 hy
  exact .inl (by show (reelAt t r).ready+(a:Int)<(reelAt t r).ready+(b:Int);omega)
theorem pw_before {α:Type}{R:α->α->Prop}{P:α->Bool}{l:List α}{a:α}(ha:∀x y,R x y->¬R y x)(hp:l.Pairwise R)(hf:l.find? P=some a):∀b∈l,R b a->P b=false:=by
 intro b hb hR
 obtain⟨_,l1,l2,e,h1⟩:=List.find?_eq_some_iff_append.1 hf
 rw[e] at hb hp
 rcases List.mem_append.1 hb with g|g
 ·have:=h1 b g;simpa using this
 ·rcases List.mem_cons.1 g with e2|g2
  ·subst e2;exact absurd hR (ha _ _ hR)
  ·have:=(List.pairwise_cons.1 (List.pairwise_append.1 hp).2.1).1 b g2
   exact absurd hR (ha _ _ this)
theorem turn_eq1 {t u:Task}{G:List Pl}(h:BarLow t u G)(hV:Valid t){r:Nat}(hr:r<t.reels.length){rest:List Nat}(hK:rest.Nodup)(hR:∀x∈rest,x<t.reels.length) :
  (turnP t G r rest=none/\turnC u r rest=none)\/∃(d m:Nat) (n:Int),d<t.days.toNat/\m<t.machines.length/\0<=n/\n<capT t m (t.first+(d:Int))/\(((m:Int),t.first+(d:Int),n):Pl) ∉ G/\canB t r m d=true/\turnP t G r rest=some ((m:Int),t.first+(d:Int),n)/\turnC u r rest=some (d,m):=by
 have hrs:=hV.rs _ (List.getElem_mem hr)
 rw[<-reelAt_nat hr] at hrs
 have hpw:=placesL_pw (t:=t) (r:=(r:Nat)) hrs.2.2.1
 have toC:∀(m d:Nat) (n:Int),m<t.machines.length->d<t.days.toNat->((m:Int),t.first+(d:Int),n)∈placesL t (r:Nat)->okP t G rest ((m:Int),t.first+(d:Int),n)=true->okC u r rest (d,m)=true:=by
  intro m d n hm hd hp hk
  obtain⟨h1,h2⟩:=okP_iff.1 hk
  obtain⟨g1,g2,g3,g4,g5⟩:=mem_placesL.1 hp
  have hs:=h.step hV hm hd g4 g5 h1
  refine okC_iff.2 ⟨?_,?_,(hs.fit hV hK hR).1 h2⟩
  ·rw[h.low.canB];exact decide_eq_true ⟨g1,g2,g3⟩
  ·have:=hs.eq m d hm hd
   rw[capM_low (by rw[h.low.len];exact hm) (by have:=h.low.pl m hm;omega),if_pos ⟨rfl,rfl⟩] at this
   show capM u m d≠0
   omega
 have toP:∀(m d:Nat),m<t.machines.length->d<t.days.toNat->okC u r rest (d,m)=true->∃n:Int,((m:Int),t.first+(d:Int),n)∈placesL t (r:Nat)/\okP t G rest ((m:Int),t.first+(d:Int),n)=true:=by
  intro m d hm hd hk
  obtain⟨h1,h2,h3⟩:=okC_iff.1 hk
  rw[h.low.canB] at h1
  obtain⟨c1,c2,c3⟩:=of_decide_eq_true h1
  have he:=h.eq m d hm hd
  have hne:freeN t (barL G) ((m:Int),t.first+(d:Int))≠[]:=fun e=>by
   rw[e] at he;exact h2 he
  obtain⟨n,hn⟩:=List.exists_mem_of_ne_nil _ hne
  obtain⟨n1,n2⟩:=mem_freeN.1 hn
  have n1':(n:Int)<capT t m (t.first+(d:Int)):=by
   have:n<(capT t m (t.first+(d:Int))).toNat:=n1
   omega
  have n2':(((m:Int),t.first+(d:Int),(n:Int)):Pl) ∉ G:=barL_ff.1 n2
  refine⟨n,mem_placesL.2 ⟨c1,c2,c3,by omega,n1'⟩,okP_iff.2 ⟨n2',?_⟩⟩
  exact ((h.step hV hm hd (by omega) n1' n2').fit hV hK hR).2 h3
 have hlen:u.days=t.days/\u.machines.length=t.machines.length:=⟨h.low.days,h.low.len⟩
 cases hf:turnP t G r rest with
 | none =>
  refine .inl ⟨rfl,turnC_none fun d' m' hd' hm'=>?_⟩
  rw[hlen.1] at hd'
  rw[hlen.2] at hm'
  cases hk:okC u r rest (d',m') with
  | false=>rfl
  | true =>
   obtain⟨n,h1,h2⟩:=toP m' d' hm' hd' hk
   exact absurd h2 (by simpa using List.find?_eq_none.1 hf _ h1)
 | some p =>
  obtain⟨m0,d0,n⟩:=p
  have hmem:=List.mem_of_find?_eq_some hf
  have hok:=List.find?_some hf
  obtain⟨g1,g2,g3,g4,g5⟩:=mem_placesL.1 hmem
  obtain⟨m,d,rfl,rfl,hm,hd⟩:=adjM_cell hV hr (m:=m0) (d:=d0) ⟨g1,g2,g3⟩
  refine .inr ⟨d,m,n,hd,hm,g4,g5,(okP_iff.1 hok).1,decide_eq_true ⟨g1,g2,g3⟩,rfl,?_⟩
  refine turnC_some (by rw[hlen.1];exact hd) (by rw[hlen.2];exact hm) (toC m d n hm hd hmem hok) fun d' m' hd' hm' hl=>?_
  rw[hlen.1] at hd'
  rw[hlen.2] at hm'
  cases hk:okC u r rest (d',m') with
  | false=>rfl
  | true =>
   obtain⟨n',h1,h2⟩:=toP m' d' hm' hd' hk
   have:=pw_before (R:=ltP) (fun x y a b=>by unfold ltP at a b;omega) hpw hf _ h1 (by
    unfold ltP
    unfold ltC at hl
    simp only at hl ⊢
    omega)
   rw[h2] at this;cases this
theorem turns_eq {t:Task}(hV:Valid t):∀{l:List Nat}{u:Task}{G:List Pl},BarLow t u G->l.Nodup->(∀x∈l,x<t.reels.length)->turnsP t G l=turnsG u l
 | [],_,_,_,_,_=>rfl
 | r::rest,u,G,h,hn,hR=>by
  rw[List.nodup_cons] at hn
  have hR':=fun x hx=>hR x (List.mem_cons_of_mem _ hx)
  unfold turnsP turnsG
  rcases turn_eq1 h hV (hR r List.mem_cons_self) hn.2 hR' with ⟨h1,h2⟩|⟨d,m,n,hd,hm,hn0,hn1,hG,_,h1,h2⟩
  ·rw[h1,h2];exact turns_eq hV h hn.2 hR'
  ·rw[h1,h2]
   show _::turnsP t _ rest=_::turnsG _ rest
   rw[turns_eq hV (h.step hV hm hd hn0 hn1 hG) hn.2 hR',h.low.first]
end Go.Dw
/- W3: contracts: Ints, SameTurns: lists compared. -/
namespace Go.Dw
open Go Go.Dx Go.Proofs
set_option maxRecDepth 100000
end Go.Dw
/- W4: contracts: SameTurns. -/
namespace Go.Dw
open Go Go.Dx Go.Proofs
set_option maxRecDepth 100000
noncomputable def turnK:KeyK Tryz.prog 59 (Int×Int×Int) where
 enc:=fun p=>.agg ⟨[i64 p.1,i64 p.2.1,i64 p.2.2]⟩
 ks:=.struct [(.int .i64,0),(.int .i64,1),(.int .i64,2)]
 hks:=by kernel_rfl
 flat:=fun _=>rfl
 ok:=fun _=>rfl
 eq:=placeK.eq
 same:=fun a=>by simp[Instr.sameBits]
end Go.Dw
/- W5: contracts: SameLate. -/
namespace Go.Dw
open Go Go.Dx Go.Proofs
set_option maxRecDepth 100000
end Go.Dw
/- W6: contracts: slices.Clone. -/
namespace Go.Dw
open Go Go.Dx Go.Proofs
set_option maxRecDepth 100000
theorem run_eq_nilSl {P:Program}{t el:TypeId}(hu:P.underlying t=some (.slice el))(n:Nat)(w:World):(Op.equalIn (n+1) t (.slice none 0 0) (.slice none 0 0)).run P w=.ok true w:=by
 simp only[Op.equalIn,Sem.run_bind,run_underlying hu,Result.andThen_ok,Sem.run_pure]
 rfl
section
variable {P:Program}{m:Mem}{h:Heap}{d:Option Tmp}{ty:TypeId}{pos:String}{af:Array Edge}{gu:Option (Nat×Bool)}{t tz el:TypeId}{x y:Operand}
theorem A_eqNilN (hu:P.underlying t=some (.slice el))(hx:opk h m x=some (.slice none 0 0))(hy:opk h m y=some (.slice none 0 0)):Aop P ⟨d,.binOp .eql t x y tz,ty,pos,af,gu⟩ m h (.bool true) h :=
 A_bin hx hy rfl rfl rfl fun w=>by
  have h2:(eqGuard .eql t x y (.slice none 0 0) (.slice none 0 0)).run P w=.ok () w:=rfl
  simp only[Sem.run_bind,h2,Result.andThen_ok]
  show (do pure (.bool (<-Op.equalIn (9999+1) t (.slice none 0 0) (.slice none 0 0))):Sem Value).run P w=_
  simp only[Sem.run_bind,run_eq_nilSl hu,Result.andThen_ok,Sem.run_pure]
theorem A_eqNilS {a:Addr}{n c:Nat}(hu:P.underlying t=some (.slice el))(hx:opk h m x=some (.slice (some a) n c))(hy:opk h m y=some (.slice none 0 0)):Aop P ⟨d,.binOp .eql t x y tz,ty,pos,af,gu⟩ m h (.bool false) h :=
 Aop_of fun e hs=>by
  show pBin P _ h e .eql t x y=_
  unfold pBin
  simp only[opk_opv hs hx,opk_opv hs hy]
  have:abinNil P .eql t (.slice (some a) n c) (.slice none 0 0)=some (.bool false):=by
   unfold abinNil
   rw[hu]
   rfl
  simp only[this]
end
theorem clone_sv {v:Value}{l:List Int}{h0 h:Heap}(hF:FreshSl h0 h v 3 1 (l.map i64) l.length)(hlen:l.length<1000000) :
  Sv Tryz.prog 101 [v] h (RetP fun v' h'=>FreshSl h h' v' 3 1 (l.map i64) l.length/\Ext h h'):=by
 refine Sv_wf fun hw=>?_
 refine Sv_enter Tryz.func101 rfl (by rw[Tryz.ntmps101];rfl) ?_;show Wc Tryz.prog ⟨101,8,none⟩ _ _ _ _ _
 refine zz ?_
 obtain⟨a,e1,_,hs⟩:=hF.srcAt
 rcases hF with ⟨e,e2,e3⟩|⟨b,sp,op,e,hg,hgl,hgn,hsp⟩
 ·subst e
  rw[e2,e3]
  refine Wo_do rfl rfl rfl rfl (A_eqNilN Und.h rfl rfl) ?_
  refine zz ?_
  exact Wc_ret (Lv_ret rfl ⟨FreshSl.nil _ _ _ _,Ext.refl _⟩)
 ·subst e
  cases e1
  refine Wo_do rfl rfl rfl rfl (A_eqNilS Und.h rfl rfl) ?_
  refine zz ?_
  refine Wo_bs rfl rfl Und.h Tsz.h Zr.h rfl rfl rfl rfl rfl fun h1 hE1 hW1 hg1 hx1=>?_
  refine zz ?_
  refine Wo_appendF (by':=8) (k:=l.length) (n:=0) (l:=l.map i64) hw hE1 rfl rfl rfl rfl rfl Und.h inferInstance rfl rfl (FreshSl.lit (n:=0) (sz:=1) (cs:=[]) hg1 rfl (Nat.le_refl _)) ((hs.ext hE1).src (dd:=.slice 3) Und.h (by intro k;simp)) (by simp) (allOne_i64 _) (by omega) (by omega) fun v2 h2 hF2 hE2 hK2 hx2 hv2=>?_
  refine zz ?_
  refine Wc_ret (Lv_ret rfl ⟨?_,hE2⟩)
  rw[List.nil_append,Nat.zero_add] at hF2
  exact hF2
end Go.Dw
/- W10: what Plan answers, with no program in sight. -/
namespace Go.Dw
open Go Go.Dx Go.Proofs Go.Mt
def sortI (l:List Int):List Int:=l.mergeSort fun a b=>decide (a<=b)
theorem sortI_perm (l:List Int):(sortI l).Perm l:=List.mergeSort_perm _ _
theorem sortI_sorted (l:List Int):Sorted (sortI l):=(List.pairwise_mergeSort (fun a b c h1 h2=>decide_eq_true (by have:=of_decide_eq_true h1;have:=of_decide_eq_true h2;omega)) (fun a b=>by simp only[Bool.or_eq_true,decide_eq_true_eq];omega) l).imp fun h=>of_decide_eq_true h
theorem sortI_len (l:List Int):(sortI l).length=l.length:=(sortI_perm l).length_eq
theorem mem_sortI {l:List Int}{x:Int}:x∈sortI l ↔ x∈l:=(sortI_perm l).mem_iff
theorem sortI_nodup {l:List Int}(h:l.Nodup):(sortI l).Nodup:=(sortI_perm l).nodup_iff.2 h
theorem sorted_lt {l:List Int}(h:Sorted l)(hn:l.Nodup):l.Pairwise (· < ·):=(List.Pairwise.and h hn).imp fun ⟨h1,h2⟩=>by omega
def riskLe (t:Task)(a b:Nat):Bool:=decide (riskN t b<riskN t a\/(riskN t a=riskN t b/\a<=b))
def ordN (t:Task):List Nat:=(List.range t.reels.length).mergeSort (riskLe t)
theorem ordN_perm (t:Task):(ordN t).Perm (List.range t.reels.length):=List.mergeSort_perm _ _
theorem ordN_nodup (t:Task):(ordN t).Nodup:=(ordN_perm t).nodup_iff.2 List.nodup_range
theorem mem_ordN {t:Task}{r:Nat}:r∈ordN t ↔ r<t.reels.length:=(ordN_perm t).mem_iff.trans List.mem_range
theorem ordN_by (t:Task):ByRisk t (ordN t):=by
 have h1:=List.pairwise_mergeSort (le:=riskLe t) (fun a b c h1 h2=>decide_eq_true (by have:=of_decide_eq_true h1;have:=of_decide_eq_true h2;omega)) (fun a b=>by simp only[riskLe,Bool.or_eq_true,decide_eq_true_eq];omega) (List.range t.reels.length)
 exact (List.Pairwise.and h1 (ordN_nodup t)).imp fun ⟨h1,h2⟩=>by have:=of_decide_eq_true h1;omega
theorem ord_eq {t:Task}{s:List Nat}(hp:s.Perm (List.range t.reels.length))(hb:ByRisk t s):s=ordN t:=byRisk_eq (hp.trans (ordN_perm t).symm) hb (ordN_by t)
noncomputable abbrev goT (t:Task):List Nat×List (Nat×List Nat):=goN t (ordN t)
abbrev ints (l:List Nat):List Int:=l.map fun (r:Nat)=>(r:Int)
noncomputable def keptI (t:Task):List Int:=sortI (ints (goT t).1)
noncomputable def keptS (t:Task):List Nat:=natsL (keptI t)
noncomputable def byOf (t:Task)(r:Nat):List Nat:=((goT t).2.lookup r).getD []
noncomputable def lateN (t:Task):List Nat:=(List.range t.reels.length).filter fun (r:Nat)=>!decide ((r:Int)∈keptI t)
noncomputable def latOf (t:Task)(r:Nat):Lat:=⟨(r:Int),sortI (ints (byOf t r))⟩
noncomputable def lateL (t:Task):List Lat:=(lateN t).map (latOf t)
noncomputable def planS (t:Task):List Turn×List Lat×Int:=if errS t≠0 then ([],[],errS t) else (turnsG t (keptS t),lateL t,0)
theorem goT_sub (t:Task):(goT t).1.Sublist (ordN t):=goN_sub t _
theorem goT_nodup (t:Task):(goT t).1.Nodup:=(ordN_nodup t).sublist (goT_sub t)
theorem goT_lt {t:Task}{r:Nat}(h:r∈(goT t).1):r<t.reels.length:=mem_ordN.1 ((goT_sub t).subset h)
theorem ints_nodup {l:List Nat}(h:l.Nodup):(ints l).Nodup:=map_nodup (fun a _ b _ e=>by omega) h
theorem mem_ints {l:List Nat}{r:Nat}:(r:Int)∈ints l ↔ r∈l:=by
 unfold ints
 rw[List.mem_map]
 exact⟨fun ⟨a,ha,e⟩=>(show a=r by omega) ▸ ha,fun h=>⟨r,h,rfl⟩⟩
theorem mem_keptI {t:Task}{r:Nat}:(r:Int)∈keptI t ↔ r∈(goT t).1:=mem_sortI.trans mem_ints
theorem keptI_nodup (t:Task):(keptI t).Nodup:=sortI_nodup (ints_nodup (goT_nodup t))
theorem keptI_in {t:Task}{x:Int}(h:x∈keptI t):0<=x/\x<t.reels.length:=by
 obtain⟨r,hr,rfl⟩:=List.mem_map.1 (mem_sortI.1 h)
 have:=goT_lt hr;omega
theorem keptI_len (t:Task):(keptI t).length<=t.reels.length:=by
 have h1:(keptI t).length=(goT t).1.length:=by rw[keptI,sortI_len];exact List.length_map _
 have h2:=(goT_sub t).length_le
 rw[(ordN_perm t).length_eq,List.length_range] at h2
 omega
theorem keptS_nodup (t:Task):(keptS t).Nodup:=natsL_nodup (keptI_nodup t) fun _ h=>(keptI_in h).1
theorem mem_keptS {t:Task}{r:Nat}:r∈keptS t ↔ r∈(goT t).1:=by
 rw[keptS,natsL,List.mem_map]
 constructor
 ·rintro⟨x,hx,rfl⟩
  have:=keptI_in hx
  exact mem_keptI.1 (by rw[Int.toNat_of_nonneg this.1];exact hx)
 ·exact fun h=>⟨(r:Int),mem_keptI.2 h,Int.toNat_natCast r⟩
theorem keptS_lt {t:Task}{r:Nat}(h:r∈keptS t):r<t.reels.length:=goT_lt (mem_keptS.1 h)
theorem goN_keys (t:Task)(s:List Nat):((goN t s).2.map Prod.fst).Sublist s:=by
 refine snoc_ind (p:=fun s=>((goN t s).2.map Prod.fst).Sublist s) List.Sublist.slnil (fun s x ih=>?_) s
 ·rw[goN_snoc]
  unfold stepN
  split
  ·exact ih.trans (List.sublist_append_left _ _)
  ·rw[List.map_append];exact ih.append (List.Sublist.refl _)
theorem lookup_mem {l:List (Nat×List Nat)}(hn:(l.map Prod.fst).Nodup){p:Nat×List Nat}(hp:p∈l):l.lookup p.1=some p.2:=by
 induction l with
 | nil=>cases hp
 | cons q l ih =>
  rw[List.map_cons,List.nodup_cons] at hn
  obtain⟨a,b⟩:=q
  rcases List.mem_cons.1 hp with e|g
  ·rw[e];exact List.lookup_cons_self
  ·have hne:(p.1 == a)=false:=by
    simp only[beq_eq_false_iff_ne,ne_eq]
    rintro e
    exact hn.1 (List.mem_map.2 ⟨p,g,e⟩)
   rw[List.lookup_cons,hne]
   exact ih hn.2 g
theorem byOf_mem {t:Task}{p:Nat×List Nat}(hp:p∈(goT t).2):byOf t p.1=p.2:=by
 unfold byOf
 rw[lookup_mem ((ordN_nodup t).sublist (goN_keys t _)) hp];rfl
theorem late_iff {t:Task}{r:Nat}:r∈lateN t ↔ r∈(goT t).2.map Prod.fst:=by
 have hd:∀(s:List Nat),s.Nodup->∀r∈(goN t s).1,r ∉ (goN t s).2.map Prod.fst:=by
  refine snoc_ind (fun _ _ h=>nomatch h) (fun s x ih hn r hr=>?_)
  have hs:=List.nodup_append.1 hn
  have hx:x ∉ s:=fun h=>hs.2.2 x h x (by simp) rfl
  rw[goN_snoc] at hr ⊢
  unfold stepN at hr ⊢
  split
  ·rename_i hf
   rw[if_pos hf] at hr
   rcases List.mem_append.1 hr with g|g
   ·exact ih hs.1 r g
   ·rw[List.mem_singleton.1 g];exact fun h=>hx ((goN_keys t s).subset h)
  ·rename_i hf
   rw[if_neg hf] at hr
   rw[List.map_append,List.mem_append]
   rintro (g|g)
   ·exact ih hs.1 r hr g
   ·have:r=x:=by simpa using g
    exact hx (this ▸ (goN_sub t s).subset hr)
 unfold lateN
 rw[List.mem_filter,List.mem_range]
 have h1:=goN_mem t (ordN t) r
 rw[mem_ordN] at h1
 have h2:=hd (ordN t) (ordN_nodup t) r
 simp only[Bool.not_eq_true',decide_eq_false_iff_not,mem_keptI]
 constructor
 ·rintro⟨a,b⟩;exact (h1.1 a).resolve_left b
 ·intro a;exact⟨h1.2 (.inr a),fun b=>h2 b a⟩
end Go.Dw
/- W11: Plan leaves least, with no program in sight. -/
namespace Go.Dw
open Go Go.Dx Go.Proofs Go.Mt
def riskT (t:Task)(r:Nat):Nat:=(riskN t r).toNat
def totR (t:Task):Nat:=sumR (riskT t) (List.range t.reels.length)
theorem judged_parts {t:Task}{l:List Turn}(h:judgedS t l=0):argB t (-1) l=false/\(∀x∈l,placeOk t x=true)/\∀x∈l,(cntT l x.machine x.day:Int)<=capT t x.machine x.day:=by
 unfold judgedS at h
 split at h
 ·cases h
 ·rename_i h1
  split at h
  ·cases h
  ·rename_i h2
   split at h
   ·cases h
   ·rename_i h3
    refine⟨by simpa using h1,fun x hx=>?_,fun x hx=>?_⟩
    ·have:l.all (placeOk t)=true:=by simpa using h2
     exact List.all_eq_true.1 this x hx
    ·rw[Bool.not_eq_true,fullB,List.any_eq_false] at h3
     have:=h3 x hx
     simp only[decide_eq_true_eq] at this
     omega
abbrev reelsN (l:List Turn):List Nat:=natsL (l.map Turn.reel)
def cellOf (l:List Turn)(r:Nat):Int×Int:=match l.find? (fun y=>decide (y.reel=(r:Int))) with
 | some x=>(x.machine,x.day)
 | none=>(0,0)
theorem places_lt {t:Task}{bar:Pl->Bool}{r:Nat}{p:Pl}(h:adjB t bar r p):r<t.reels.length:=by
 obtain⟨m,d,n⟩:=p
 have h1:=(mem_placesL.1 h.1).1
 rcases Nat.lt_or_ge r t.reels.length with g|g
 ·exact g
 ·exfalso
  have e:reelAt t (r:Nat)=noReel:=by unfold reelAt;rw[Int.toNat_natCast];exact getD_out g
  rw[e] at h1;cases h1
def allPl (t:Task):List Pl:=(List.range t.reels.length).flatMap fun (r:Nat)=>placesL t (r:Nat)
theorem adjB_all {t:Task}{bar:Pl->Bool}:∀r p,adjB t bar r p->p∈allPl t:=fun r p h=>List.mem_flatMap.2 ⟨r,List.mem_range.2 (places_lt h),h.1⟩
theorem goN_late {t:Task}:∀(s:List Nat),s.Nodup->ByRisk t s->∀p∈(goN t s).2,∃K1,K1.Sublist (goN t s).1/\¬fitN t (K1++[p.1])/\p.2=byN t K1 p.1/\p.1 ∉ K1/\p.1 ∉ (goN t s).1/\∀k∈K1,riskN t p.1<=riskN t k:=by
 refine snoc_ind (fun _ _ p hp=>by cases hp) (fun s x ih hn hb p hp=>?_)
 have hs:=List.nodup_append.1 hn
 have hx:x ∉ s:=fun h=>hs.2.2 x h x (by simp) rfl
 have hb':=List.pairwise_append.1 hb
 have hxk:x ∉ (goN t s).1:=fun h=>hx ((goN_sub t s).subset h)
 rw[goN_snoc] at hp ⊢
 unfold stepN at hp ⊢
 split
 ·rename_i hf
  rw[if_pos hf] at hp
  obtain⟨K1,a1,a2,a3,a4,a5,a6⟩:=ih hs.1 hb'.1 p hp
  refine⟨K1,a1.trans (List.sublist_append_left _ _),a2,a3,a4,fun h=>?_,a6⟩
  rcases List.mem_append.1 h with g|g
  ·exact a5 g
  ·have:p.1=x:=List.mem_singleton.1 g
   exact hx (this ▸ (goN_keys t s).subset (List.mem_map.2 ⟨p,hp,rfl⟩))
 ·rename_i hf
  rw[if_neg hf] at hp
  rcases List.mem_append.1 hp with g|g
  ·obtain⟨K1,a1,a2,a3,a4,a5,a6⟩:=ih hs.1 hb'.1 p g
   exact⟨K1,a1,a2,a3,a4,a5,a6⟩
  ·rw[List.mem_singleton.1 g]
   refine⟨(goN t s).1,List.Sublist.refl _,hf,rfl,hxk,hxk,fun k hk=>?_⟩
   have:=hb'.2.2 k ((goN_sub t s).subset hk) x (by simp)
   show riskN t x<=riskN t k
   omega
theorem fit_comm {t:Task}{K:List Nat}{r:Nat}:fitN t (K++[r]) ↔ fitN t (r::K):=Fit.congr (fun _ _ _=>Iff.rfl) fun x=>by simp[or_comm]
theorem barL_one (p:Pl)(q:Pl):barL [p] q=false ↔ q≠p:=by rw[barL_ff,List.mem_singleton]
theorem turnC_is {t:Task}(hV:Valid t){r:Nat}{rest:List Nat}(hn:(r::rest).Nodup)(hl:∀x∈r::rest,x<t.reels.length)(hf:fitN t (r::rest)):∃d m,d<t.days.toNat/\m<t.machines.length/\turnC t r rest=some (d,m)/\okC t r rest (d,m)=true:=by
 obtain⟨f,h1,h2⟩:=hf
 rw[List.nodup_cons] at hn
 have hB:=BarLow.start hV
 have hl':=fun x hx=>hl x (List.mem_cons_of_mem _ hx)
 rcases turn_eq1 hB hV (hl r List.mem_cons_self) hn.2 hl' with ⟨g1,_⟩|⟨d,m,n,hd,hm,_,_,_,_,_,g2⟩
 ·exfalso
  have:=List.find?_eq_none.1 g1 (f r) (h1 r List.mem_cons_self).1
  refine this (okP_iff.2 ⟨by simp,f,fun x hx=>⟨(h1 x (List.mem_cons_of_mem _ hx)).1,?_⟩,fun x hx y hy e=>h2 x (List.mem_cons_of_mem _ hx) y (List.mem_cons_of_mem _ hy) e⟩)
  refine (barL_one _ _).2 fun e=>hn.1 ?_
  have:=h2 x (List.mem_cons_of_mem _ hx) r List.mem_cons_self e
  rw[<-this];exact hx
 ·exact⟨d,m,hd,hm,g2,List.find?_some g2⟩
theorem okC_parts {u:Task}{r:Nat}{rest:List Nat}{d m:Nat}(h:okC u r rest (d,m)=true):canB u r m d=true/\capM u m d≠0/\fitN (low u m d) rest:=okC_iff.1 h
theorem low_lowd {t:Task}(hV:Valid t){m d:Nat}(hm:m<t.machines.length)(hd:d<t.days.toNat)(hc:capM t m d≠0):Lowd t (low t m d):=(Lowd.refl hV).low hV hm hd hc
theorem turnsG_ok:∀{l:List Nat}{t:Task},Valid t->l.Pairwise (· < ·)->(∀x∈l,x<t.reels.length)->fitN t l →
  (turnsG t l).map Turn.reel=ints l/\(∀x∈turnsG t l,0<=x.machine/\x.machine<t.machines.length/\placeOk t x=true)/\∀m d:Nat,m<t.machines.length->d<t.days.toNat->(cntT (turnsG t l) m (t.first+(d:Int)):Int)<=capM t m d
 | [],t,hV,_,_,_=>⟨rfl,(fun x hx=>nomatch hx),fun m d _ _=>by
  have:=((Lowd.refl hV).cap m d).1
  show ((0:Nat):Int)<=_
  omega⟩
 | r::rest,t,hV,hn,hl,hf=>by
  have hnd:(r::rest).Nodup:=hn.imp fun h=>by omega
  obtain⟨d,m,hd,hm,h1,h2⟩:=turnC_is hV hnd hl hf
  obtain⟨k1,k2,k3⟩:=okC_parts h2
  have hL:=low_lowd hV hm hd k2
  have ih:=turnsG_ok (t:=low t m d) (hL.valid hV) (List.pairwise_cons.1 hn).2 (fun x hx=>by rw[hL.reels];exact hl x (List.mem_cons_of_mem _ hx)) k3
  obtain⟨i1,i2,i3⟩:=ih
  have e:turnsG t (r::rest)=⟨r,m,t.first+d⟩::turnsG (low t m d) rest:=by
   show (match turnC t r rest with|none=>turnsG t rest|some c=>⟨r,c.2,t.first+c.1⟩::turnsG (low t c.2 c.1) rest)=_
   rw[h1]
  rw[e]
  refine⟨by rw[List.map_cons,i1];rfl,fun x hx=>?_,fun m' d' hm' hd'=>?_⟩
  ·rcases List.mem_cons.1 hx with rfl|g
   ·obtain⟨c1,c2,c3⟩:=of_decide_eq_true k1
    exact⟨by show (0:Int)<=(m:Nat);omega,by show ((m:Nat):Int)<_;omega,decide_eq_true ⟨c1,c2,c3⟩⟩
   ·obtain⟨j1,j2,j3⟩:=i2 x g
    rw[low_len] at j2
    refine⟨j1,j2,?_⟩
    have:=of_decide_eq_true j3
    rw[hL.reelAt] at this
    exact decide_eq_true this
  ·have j:=i3 m' d' (by rw[low_len];exact hm') hd'
   rw[capM_low hm (by have:=(Lowd.refl hV).pl m hm;omega)] at j
   have e2:cntT (⟨r,m,t.first+d⟩::turnsG (low t m d) rest) m' (t.first+d')=cntT [⟨r,m,t.first+d⟩] m' (t.first+d')+cntT (turnsG (low t m d) rest) m' (t.first+d'):=by rw[<-cntT_append];rfl
   rw[e2,cntT_one]
   simp only
   have j':(cntT (turnsG (low t m d) rest) m' (t.first+(d':Int)):Int)<=if m'=m/\d'=d then capM t m d-1 else capM t m' d':=j
   by_cases hc:m'=m/\d'=d
   ·obtain⟨rfl,rfl⟩:=hc
    simp only[and_self,if_true] at j' ⊢
    omega
   ·rw[if_neg hc] at j'
    rw[if_neg (fun e=>hc ⟨by omega,by omega⟩)]
    omega
theorem argB_of {t:Task}:∀{l:List Turn}{b:Int},(∀x∈l,b<x.reel/\x.reel<t.reels.length/\0<=x.machine/\x.machine<t.machines.length)->(l.map Turn.reel).Pairwise (· < ·)->argB t b l=false
 | [],_,_,_=>rfl
 | x::l,b,h,hp=>by
  have h1:=h x List.mem_cons_self
  rw[List.map_cons,List.pairwise_cons] at hp
  unfold argB
  rw[if_neg (by omega)]
  exact argB_of (fun y hy=>⟨hp.1 _ (List.mem_map.2 ⟨y,hy,rfl⟩),(h y (List.mem_cons_of_mem _ hy)).2⟩) hp.2
theorem pw_ints {l:List Nat}(h:l.Pairwise (· < ·)):(ints l).Pairwise (· < ·):=by
 unfold ints
 rw[List.pairwise_map]
 exact h.imp fun h=>by omega
theorem turnsG_judged {t:Task}(hV:Valid t){l:List Nat}(hn:l.Pairwise (· < ·))(hl:∀x∈l,x<t.reels.length)(hf:fitN t l):judgedS t (turnsG t l)=0:=by
 obtain⟨h1,h2,h3⟩:=turnsG_ok hV hn hl hf
 have hr:∀x∈turnsG t l,∃r:Nat,x.reel=r/\r<t.reels.length:=fun x hx=>by
  have:x.reel∈ints l:=by rw[<-h1];exact List.mem_map.2 ⟨x,hx,rfl⟩
  obtain⟨r,hr,e⟩:=List.mem_map.1 this
  exact⟨r,e.symm,hl r hr⟩
 unfold judgedS
 rw[if_neg (by rw[argB_of (fun x hx=>by obtain⟨r,e,hr⟩:=hr x hx;have:=h2 x hx;omega) (by rw[h1];exact pw_ints hn)];simp),
  if_neg (by rw[List.all_eq_true.2 fun x hx=>(h2 x hx).2.2];simp),if_neg]
 rw[Bool.not_eq_true,fullB,List.any_eq_false]
 intro x hx
 obtain⟨r,e,hr'⟩:=hr x hx
 obtain⟨m0,m1,hp⟩:=h2 x hx
 obtain⟨p1,p2,p3⟩:=of_decide_eq_true hp
 rw[e] at p1 p2 p3
 obtain⟨m',d',e1,e2,hm,hd⟩:=adjM_cell hV hr' (m:=x.machine) (d:=x.day) ⟨p1,p2,p3⟩
 have:=h3 m' d' hm hd
 rw[e1,e2,capT_M]
 simp only[decide_eq_true_eq]
 omega
theorem keptS_pw (t:Task):(keptS t).Pairwise (· < ·):=by
 unfold keptS natsL
 rw[List.pairwise_map]
 refine (List.Pairwise.and_mem.1 (sorted_lt (sortI_sorted _) (keptI_nodup t))).imp fun {a b} h=>?_
 have:=(keptI_in h.1).1
 omega
theorem keptS_fit (t:Task):fitN t (keptS t):=(Fit.congr (fun _ _ _=>Iff.rfl) fun _=>mem_keptS).2 (goN_fit t _)
theorem plan_judged {t:Task}(hV:Valid t):judgedS t (turnsG t (keptS t))=0:=turnsG_judged hV (keptS_pw t) (fun _=>keptS_lt) (keptS_fit t)
theorem plan_reels {t:Task}(hV:Valid t):(turnsG t (keptS t)).map Turn.reel=ints (keptS t):=(turnsG_ok hV (keptS_pw t) (fun _=>keptS_lt) (keptS_fit t)).1
end Go.Dw
/- W12: late reels, by whom; plans that are proved, with no program in sight. -/
namespace Go.Dw
open Go Go.Dx Go.Proofs Go.Mt
theorem mem_byN {t:Task}{K:List Nat}{r k:Nat}(hK:K.Nodup):k∈byN t K r ↔ By (adjB t fun _=>false) K r k:=by
 have key:∀i (hi:i<K.length),fitN t (K.take i++K.drop (i+1)++[r]) ↔ Fit (adjB t fun _=>false) (r::out1 K K[i]):=fun i hi=>by
  refine Fit.congr (fun _ _ _=>Iff.rfl) fun x=>?_
  rw[List.mem_append,List.mem_singleton,List.mem_cons,mem_out1]
  have e:K=K.take i++K[i]::K.drop (i+1):=by rw[<-List.drop_eq_getElem_cons hi,List.take_append_drop]
  have hn:(K.take i++K[i]::K.drop (i+1)).Nodup:=by rw[<-e];exact hK
  rw[List.nodup_append,List.nodup_cons] at hn
  have hm:x∈K ↔ x∈K.take i\/x=K[i]\/x∈K.drop (i+1):=by
   conv=>lhs;rw[e]
   rw[List.mem_append,List.mem_cons]
  rw[List.mem_append]
  constructor
  ·rintro ((g|g)|g)
   ·exact .inr ⟨hm.2 (.inl g),fun e2=>hn.2.2 x g K[i] List.mem_cons_self e2⟩
   ·exact .inr ⟨hm.2 (.inr (.inr g)),fun e2=>hn.2.1.1 (e2 ▸ g)⟩
   ·exact .inl g
  ·rintro (g|⟨g,hne⟩)
   ·exact .inr g
   ·rcases hm.1 g with a|a|a
    ·exact .inl (.inl a)
    ·exact absurd a hne
    ·exact .inl (.inr a)
 unfold byN By
 rw[List.mem_flatMap]
 constructor
 ·rintro⟨i,hi,hk⟩
  have hi:=List.mem_range.1 hi
  split at hk
  ·rename_i hf
   have e:K.getD i 0=K[i]:=by rw[List.getD_eq_getElem?_getD,List.getElem?_eq_getElem hi];rfl
   rw[e] at hk
   rw[List.mem_singleton.1 hk]
   exact⟨List.getElem_mem hi,(key i hi).1 hf⟩
  ·cases hk
 ·rintro⟨hm,hf⟩
  obtain⟨i,hi,e⟩:=List.getElem_of_mem hm
  refine⟨i,List.mem_range.2 hi,?_⟩
  rw[if_pos ((key i hi).2 (by rw[e];exact hf)),List.getD_eq_getElem?_getD,List.getElem?_eq_getElem hi,Option.getD_some,e]
  exact List.mem_cons_self
open Classical in
theorem byN_sub (t:Task)(K:List Nat)(r:Nat):(byN t K r).Sublist K:=by
 have h:∀k,k<=K.length->((List.range k).flatMap fun i=>if fitN t (K.take i++K.drop (i+1)++[r]) then [K.getD i 0] else []).Sublist (K.take k):=by
  intro k
  induction k with
  | zero=>intro _;simp
  | succ k ih =>
   intro hk
   rw[List.range_succ,List.flatMap_append,take_succ (by omega)]
   refine (ih (by omega)).append ?_
   have e:K.getD k 0=K[k]:=by rw[List.getD_eq_getElem?_getD,List.getElem?_eq_getElem (by omega)];rfl
   simp only[List.flatMap_cons,List.flatMap_nil,List.append_nil,e]
   split
   ·exact List.Sublist.refl _
   ·exact List.nil_sublist _
 have:=h K.length (Nat.le_refl _)
 rw[List.take_length] at this
 exact this
theorem late_law {t:Task}(hV:Valid t){r:Nat}(hr:r∈lateN t) :
  (byOf t r).Nodup/\(∀k∈byOf t r,k∈(goT t).1/\riskN t r<=riskN t k)/\r ∉ (goT t).1/\r<t.reels.length/\countS t ((r:Int)::ints (byOf t r))=((byOf t r).length:Nat):=by
 obtain⟨p,hp,rfl⟩:=List.mem_map.1 (late_iff.1 hr)
 rw[byOf_mem hp]
 obtain⟨K1,a1,a2,a3,a4,a5,a6⟩:=goN_late _ (ordN_nodup t) (ordN_by t) p hp
 have hpl:p.1<t.reels.length:=mem_ordN.1 ((goN_keys t _).subset (List.mem_map.2 ⟨p,hp,rfl⟩))
 have hK1:K1.Nodup:=(goT_nodup t).sublist a1
 have hb:=byN_sub t K1 p.1
 rw[a3]
 have hbn:(byN t K1 p.1).Nodup:=hK1.sublist hb
 refine⟨hbn,fun k hk=>⟨a1.subset (hb.subset hk),a6 k (hb.subset hk)⟩,a5,hpl,?_⟩
 obtain⟨f,h1,h2⟩:=goN_fit t (ordN t)
 have ha:∀x∈K1,adjB t (fun _=>false) x (f x):=fun x hx=>h1 x (a1.subset hx)
 have hi:Inj f K1:=fun x hx y hy e=>h2 x (a1.subset hx) y (a1.subset hy) e
 have hc:=by_clo (allPl t) adjB_all hK1 ha hi a4 (fun h=>a2 (fit_comm.2 h))
 have hin:InR t ((p.1:Int)::ints (byN t K1 p.1)):=fun y hy=>by
  rcases List.mem_cons.1 hy with e|g
  ·rw[e];omega
  ·obtain⟨k,hk,rfl⟩:=List.mem_map.1 g
   have:=goT_lt (a1.subset (hb.subset hk))
   omega
 have hnat:natsL ((p.1:Int)::ints (byN t K1 p.1))=p.1::byN t K1 p.1:=by
  unfold natsL ints
  rw[List.map_cons,List.map_map,Int.toNat_natCast]
  congr 1
  exact (List.map_congr_left fun x _=>Int.toNat_natCast x).trans (List.map_id _)
 have:=clo_count (L:=byN t K1 p.1) (N:=cellsL t ((p.1:Int)::ints (byN t K1 p.1)) t.machines.length) hc ha hi hbn (fun x=>mem_byN hK1) (cellsL_nodup _ _ _) (fun q=>by
  rw[mem_cellsL hV hin,places_nats hin,hnat])
 rw[countS_len hV,this]
theorem mixedB_ok {many:Int}:∀{l:List Int}{b:Int},(∀x∈l,b<x/\x<many)->l.Pairwise (· < ·)->mixedB many b l=false
 | [],_,_,_=>rfl
 | n::l,b,h,hp=>by
  have h1:=h n List.mem_cons_self
  rw[List.pairwise_cons] at hp
  unfold mixedB
  rw[if_neg (by omega)]
  exact mixedB_ok (fun x hx=>⟨hp.1 x hx,(h x (List.mem_cons_of_mem _ hx)).2⟩) hp.2
theorem lateGo_of {t:Task}{l:List Turn}:∀{late:List Lat}{i:Nat}{bef:Int},(late.map Lat.reel).Pairwise (· < ·)->(∀x∈late,bef<x.reel)->(∀x∈late,(0<=x.reel/\x.reel<t.reels.length/\x.reel ∉ l.map Turn.reel)/\holdsB t (l.map Turn.reel) x=true)->i+late.length+l.length=t.reels.length->lateGo t l i bef late=(0,0)
 | [],i,_,_,_,_,hn=>by
  unfold lateGo
  rw[if_neg (by simp at hn;omega)]
 | x::xs,i,bef,hp,hb,h,hn=>by
  rw[List.map_cons,List.pairwise_cons] at hp
  obtain⟨⟨h1,h2,h3⟩,h4⟩:=h x List.mem_cons_self
  have h5:=hb x List.mem_cons_self
  have e:lateBad t l bef x=false:=decide_eq_false fun g=>by
   rcases g with (g|g)|g
   ·omega
   ·exact h3 g
   ·omega
  unfold lateGo
  rw[if_neg (by rw[e];simp),if_neg (by rw[h4];simp)]
  exact lateGo_of hp.2 (fun y hy=>hp.1 _ (List.mem_map.2 ⟨y,hy,rfl⟩)) (fun y hy=>h y (List.mem_cons_of_mem _ hy)) (by simp at hn;omega)
theorem lateL_reels (t:Task):(lateL t).map Lat.reel=ints (lateN t):=by
 unfold lateL ints
 rw[List.map_map]
 rfl
theorem lateN_pw (t:Task):(lateN t).Pairwise (· < ·):=List.pairwise_lt_range.sublist List.filter_sublist
theorem ints_len (l:List Nat):(ints l).length=l.length:=List.length_map _
theorem late_count (t:Task):(lateN t).length+(goT t).1.length=t.reels.length:=by
 have h1:=len_split (fun (r:Nat)=>decide ((r:Int)∈keptI t)) (List.range t.reels.length)
 rw[List.length_range] at h1
 have h2:((List.range t.reels.length).filter fun (r:Nat)=>decide ((r:Int)∈keptI t)).Perm (goT t).1:=(List.perm_ext_iff_of_nodup (List.nodup_range.sublist List.filter_sublist) (goT_nodup t)).2 fun r=>by
  rw[List.mem_filter,List.mem_range,decide_eq_true_eq,mem_keptI]
  exact⟨fun h=>h.2,fun h=>⟨goT_lt h,h⟩⟩
 have h3:=h2.length_eq
 unfold lateN
 omega
theorem keptS_len (t:Task):(keptS t).length=(goT t).1.length:=by
 unfold keptS natsL keptI
 rw[List.length_map,sortI_len,ints_len]
theorem turns_len {t:Task}(hV:Valid t):(turnsG t (keptS t)).length=(goT t).1.length:=by
 rw[<-keptS_len t,<-ints_len,<-plan_reels hV,List.length_map]
theorem latOf_holds {t:Task}(hV:Valid t){r:Nat}(hr:r∈lateN t):holdsB t ((turnsG t (keptS t)).map Turn.reel) (latOf t r)=true:=by
 obtain⟨h1,h2,h3,h4,h5⟩:=late_law hV hr
 have hmem:∀x,x∈(latOf t r).by' ↔ ∃k∈byOf t r,x=(k:Int):=fun x=>by
  show x∈sortI (ints (byOf t r)) ↔ _
  rw[mem_sortI]
  unfold ints
  rw[List.mem_map]
  exact⟨fun ⟨k,hk,e⟩=>⟨k,hk,e.symm⟩,fun ⟨k,hk,e⟩=>⟨k,hk,e.symm⟩⟩
 unfold holdsB
 rw[Bool.and_eq_true,Bool.and_eq_true]
 refine⟨?_,List.all_eq_true.2 fun x hx=>?_,decide_eq_true ?_⟩
 ·show (!mixedB (t.reels.length:Int) (-1) (sortI (ints (byOf t r))))=true
  rw[mixedB_ok (fun x hx=>?_) (sorted_lt (sortI_sorted _) (sortI_nodup (ints_nodup h1)))]
  ·rfl
  ·obtain⟨k,hk,rfl⟩:=(hmem x).1 hx
   have:=goT_lt (h2 k hk).1
   omega
 ·obtain⟨k,hk,rfl⟩:=(hmem x).1 hx
  unfold byOk
  rw[Bool.and_eq_true]
  refine⟨decide_eq_true ?_,decide_eq_true (h2 k hk).2⟩
  rw[plan_reels hV,mem_ints,mem_keptS]
  exact (h2 k hk).1
 ·have e:countS t ((latOf t r).by'++[(latOf t r).reel])=countS t ((r:Int)::ints (byOf t r)):=countS_congr fun k=>by
   show k∈sortI (ints (byOf t r))++[(r:Int)] ↔ _
   rw[List.mem_append,List.mem_singleton,List.mem_cons,mem_sortI]
   exact or_comm
  rw[e,h5]
  show ((byOf t r).length:Int)<=((sortI (ints (byOf t r))).length:Nat)
  rw[sortI_len,ints_len]
  exact Int.le_refl _
theorem plan_accepted {t:Task}(hV:Valid t)(h0:errS t=0):acceptS t (turnsG t (keptS t)) (lateL t)=(0,0):=by
 have hj:(judgeS t (turnsG t (keptS t))).2=0:=by
  unfold judgeS
  rw[if_neg (fun h=>h h0),if_neg (fun h=>h (plan_judged hV))]
 unfold acceptS
 rw[if_neg (fun h=>h hj)]
 refine lateGo_of (by rw[lateL_reels];exact pw_ints (lateN_pw t)) (fun x hx=>?_) (fun x hx=>?_) ?_
 ·obtain⟨r,_,rfl⟩:=List.mem_map.1 hx
  show -1<(r:Int)
  omega
 ·obtain⟨r,hr,rfl⟩:=List.mem_map.1 hx
  obtain⟨h1,h2,h3,h4,h5⟩:=late_law hV hr
  refine⟨⟨?_,?_,?_⟩,latOf_holds hV hr⟩
  ·show 0<=(r:Int);omega
  ·show (r:Int)<_;omega
  ·show (r:Int) ∉ _
   rw[plan_reels hV,mem_ints,mem_keptS]
   exact h3
 ·rw[turns_len hV]
  have h1:(lateL t).length=(lateN t).length:=by unfold lateL;exact List.length_map _
  have h2:=late_count t
  omega
end Go.Dw
/- W8: the contract of the reference's chosen. -/
namespace Go.Dw
open Go Go.Dx Go.Proofs Go.Mt
set_option maxRecDepth 100000
structure ByAt (h0 h:Heap)(n ob:Nat)(L:Nat->Value)(G:Nat->List Nat):Prop where
 o:h.get ob=some (.cells ((List.range n).map L) 31 false)
 leaf:∀r,r<n->FreshSl h0 h (L r) 3 1 ((G r).map fun (r:Nat)=>i64 r) (G r).length
 linj:∀r r',r<n->r'<n->∀b,blkOf (L r)=some b->blkOf (L r')=some b->r=r'
 nr:h0.nx<=ob
theorem ByAt.ke {h0 h h':Heap}{n ob:Nat}{L:Nat->Value}{G:Nat->List Nat}(a:ByAt h0 h n ob L G)(hk:∀b vs el op,(b=ob\/∃r,r<n/\blkOf (L r)=some b)->h.get b=some (.cells vs el op)->h'.get b=some (.cells vs el op)):ByAt h0 h' n ob L G :=
 ⟨hk _ _ _ _ (.inl rfl) a.o,fun r hr=>(a.leaf r hr).keep fun b o hb hg=>by
  obtain⟨⟨op,h1⟩,_⟩:=(a.leaf r hr).at3 hb
  rw[h1] at hg;cases hg
  exact hk _ _ _ _ (.inr ⟨r,hr,hb⟩) h1,a.linj,a.nr⟩
theorem ByAt.ext {h0 h h':Heap}{n ob:Nat}{L:Nat->Value}{G:Nat->List Nat}(a:ByAt h0 h n ob L G)(he:Ext h h'):ByAt h0 h' n ob L G:=a.ke fun _ _ _ _ _ hg=>he.get hg
def updN {α:Type}(G:Nat->α)(c:Nat)(x:α):Nat->α:=fun c'=>if c'=c then x else G c'
theorem updN_same {α:Type}(G:Nat->α)(c:Nat)(x:α):updN G c x c=x:=by simp[updN]
theorem updN_other {α:Type}(G:Nat->α){c c':Nat}(x:α)(h:c'≠c):updN G c x c'=G c':=by simp[updN,h]
theorem ByAt.push {h0 h h1 h':Heap}{n ob r x:Nat}{L:Nat->Value}{G:Nat->List Nat}{v:Value}(a:ByAt h0 h n ob L G)(hw:WF h)(hr:r<n)(hF:FreshSl h0 h1 v 3 1 (((G r).map fun (r:Nat)=>i64 r)++[i64 (x:Nat)]) ((G r).length+1))(hK:Keep h h1 (blkOf (L r)))(hv:blkOf v=blkOf (L r)\/∃b,blkOf v=some b/\h.nx<=b)
  (hU:Upd h1 ob (.cells (((List.range n).map L).set r v) 31 false) h'):ByAt h0 h' n ob (updN L r v) (updN G r (G r++[x])):=by
 have hoo:h1.get ob=some (.cells ((List.range n).map L) 31 false):=hK _ _ (fun e=>by
  obtain⟨⟨op0,hg⟩,_⟩:=(a.leaf r hr).at3 e
  exact absurd (cells_el hg a.o) (by decide)) a.o
 have hlt:∀r' b,r'<n->blkOf (L r')=some b->b<h.nx:=fun r' b hr' hb=>by
  obtain⟨⟨op0,hg⟩,_⟩:=(a.leaf r' hr').at3 hb
  exact hw _ _ hg
 have hleaf:∀r',r'<n->FreshSl h0 h1 (updN L r v r') 3 1 ((updN G r (G r++[x]) r').map fun (r:Nat)=>i64 r) (updN G r (G r++[x]) r').length:=fun r' hr'=>by
  by_cases hc:r'=r
  ·rw[hc,updN_same,updN_same,List.map_append,List.length_append];exact hF
  ·rw[updN_other _ _ hc,updN_other _ _ hc]
   exact (a.leaf r' hr').keep fun b o hb hg=>hK _ _ (fun e=>hc (a.linj r' r hr' hr b hb e)) hg
 refine⟨?_,fun r' hr'=>(hleaf r' hr').keep fun b o hb hg=>hU.get (fun e=>?_) hg,fun r1 r2 h1' h2' b hb1 hb2=>?_,a.nr⟩
 ·rw[hU.at',range_set _ _ hr]
  rfl
 ·obtain⟨⟨op0,h2⟩,_⟩:=(hleaf r' hr').at3 hb
  exact absurd (cells_el hoo (e ▸ h2)) (by decide)
 ·by_cases e1:r1=r <;> by_cases e2:r2=r
  ·omega
  ·rw[e1,updN_same] at hb1
   rw[updN_other _ _ e2] at hb2
   rcases hv with e|⟨b',e,hb'⟩
   ·rw[e] at hb1;exact absurd (a.linj r2 r h2' hr b hb2 hb1) e2
   ·rw[e] at hb1;cases hb1
    have:=hlt r2 _ h2' hb2;omega
  ·rw[e2,updN_same] at hb2
   rw[updN_other _ _ e1] at hb1
   rcases hv with e|⟨b',e,hb'⟩
   ·rw[e] at hb2;exact absurd (a.linj r1 r h1' hr b hb1 hb2) e1
   ·rw[e] at hb2;cases hb2
    have:=hlt r1 _ h1' hb1;omega
  ·rw[updN_other _ _ e1] at hb1
   rw[updN_other _ _ e2] at hb2
   exact a.linj r1 r2 h1' h2' b hb1 hb2
theorem natsL_cast (s:List Nat):natsL (s.map fun (r:Nat)=>(r:Int))=s:=by
 unfold natsL
 rw[List.map_map]
 conv=>rhs;rw[<-List.map_id s]
 exact List.map_congr_left fun x _=>Int.toNat_natCast x
def byI (h0:Heap)(n ob:Nat)(L:Nat->Value)(G:Nat->List Nat):It where
 S:=fun c=>c=ob\/∃r,r<n/\blkOf (L r)=some c
 p:=fun h=>ByAt h0 h n ob L G
 loc:=fun hk a=>a.ke fun b _ _ _ hb hg=>hk b _ hb hg
 ex:=fun {h c} a hc=>by
  rcases hc with rfl|⟨r,hr,hb⟩
  ·exact⟨_,a.o⟩
  ·obtain⟨op,h1⟩:=(a.leaf r hr).got hb
   exact⟨_,h1⟩
theorem ByAt.oo {h0 h h1:Heap}{n ob r:Nat}{L:Nat->Value}{G:Nat->List Nat}(a:ByAt h0 h n ob L G)(hr:r<n)(hK:Keep h h1 (blkOf (L r))):h1.get ob=some (.cells ((List.range n).map L) 31 false):=hK _ _ (fun e=>by
 obtain⟨op0,hg⟩:=(a.leaf r hr).got e
 exact absurd (cells_el hg a.o) (by decide)) a.o
theorem cut_flat {α:Type}{f:α->List Value}{k:Nat}:∀{P:List α}{i:Nat}(hi:i<P.length),(∀p∈P,(f p).length=k)->cut (P.flatMap f) (i*k) k=some (f P[i])
 | p::P,0,_,h=>by
  have hp:=h p List.mem_cons_self
  rw[List.flatMap_cons,Nat.zero_mul,cut_le (by rw[List.length_append];omega)]
  simp only[List.drop_zero,List.getElem_cons_zero,Option.some.injEq]
  rw[<-hp]
  exact List.take_left
 | p::P,i+1,hi,h=>by
  have hp:=h p List.mem_cons_self
  have ih:=cut_flat (f:=f) (k:=k) (P:=P) (i:=i) (by simpa using hi) fun q hq=>h q (List.mem_cons_of_mem _ hq)
  rw[List.flatMap_cons,List.getElem_cons_succ,<-ih]
  have hle:i*k+k<=(P.flatMap f).length:=by
   have hl:(P.flatMap f).length=P.length*k:=by
    have:∀{Q:List α},(∀p∈Q,(f p).length=k)->(Q.flatMap f).length=Q.length*k:=by
     intro Q hQ
     induction Q with
     | nil=>simp
     | cons q Q ihQ=>rw[List.flatMap_cons,List.length_append,hQ q List.mem_cons_self,ihQ fun x hx=>hQ x (List.mem_cons_of_mem _ hx),List.length_cons,Nat.succ_mul,Nat.add_comm]
    exact this fun q hq=>h q (List.mem_cons_of_mem _ hq)
   have:i+1<=P.length:=by
    have:i+1<(p::P).length:=hi
    rw[List.length_cons] at this;omega
   rw[hl,<-Nat.succ_mul]
   exact Nat.mul_le_mul_right k this
  rw[cut_le hle,cut_le (by rw[List.length_append,hp,Nat.succ_mul];omega),Nat.succ_mul]
  congr 2
  rw[List.drop_append,List.drop_eq_nil_of_le (by omega),hp]
  simp
def lvI (h0:Heap)(P:List (Lat×Value)):It where
 S:=fun c=>∃p∈P,blkOf p.2=some c
 p:=fun h=>∀p∈P,FreshSl h0 h p.2 3 1 (p.1.by'.map i64) p.1.by'.length
 loc:=fun hk a p hp=>(a p hp).keep fun b o hb hg=>hk b o ⟨p,hp,hb⟩ hg
 ex:=fun {h c} a hc=>by
  obtain⟨p,hp,hb⟩:=hc
  obtain⟨op,h1⟩:=(a p hp).got hb
  exact⟨_,h1⟩
def latRow (p:Lat×Value):List Value:=[i64 p.1.reel,p.2]
theorem lats_of {h0 h:Heap}{v:Value}{P:List (Lat×Value)}(hF:FreshSl h0 h v 61 2 (P.flatMap latRow) P.length)(hB:(lvI h0 P).p h):∃a,v=.slice a P.length P.length/\LatsAt h a (P.map Prod.fst):=by
 rcases hF with ⟨rfl,_,hn⟩|⟨b,sp,op,rfl,hg,_⟩
 ·refine⟨none,by rw[hn],fun i hi=>?_⟩
  rw[List.length_map,hn] at hi;omega
 ·refine⟨_,rfl,fun i hi=>⟨b,0,sp,rfl,_,rowAt_cells hg (by rw[Nat.zero_add];exact cut_flat (by simpa using hi) fun _ _=>rfl),?_⟩⟩
  have hi':i<P.length:=by simpa using hi
  obtain⟨a,e,_,hs⟩:=(hB P[i] (List.getElem_mem hi')).srcAt
  rw[List.getElem_map]
  exact⟨a,_,by unfold latRow;rw[e],hs⟩
open Classical in
noncomputable def byK (t:Task)(kept:List Nat)(r k:Nat):List Nat:=(List.range k).flatMap fun i=>if fitN t (kept.take i++kept.drop (i+1)++[r]) then [kept.getD i 0] else []
theorem byK_len (t:Task)(kept:List Nat)(r k:Nat):(byK t kept r k).length<=k:=by
 induction k with
 | zero=>exact Nat.le_refl _
 | succ k ih =>
  unfold byK at ih ⊢
  rw[List.range_succ,List.flatMap_append,List.length_append,List.flatMap_cons,List.flatMap_nil,List.append_nil]
  refine Nat.add_le_add ih ?_
  split
  ·exact Nat.le_refl _
  ·exact Nat.zero_le _
open Classical in
theorem byK_succ {t:Task}{kept:List Nat}{r k:Nat}(hk:k<kept.length):byK t kept r (k+1)=byK t kept r k++if fitN t (kept.take k++kept.drop (k+1)++[r]) then [kept[k]] else []:=by
 unfold byK
 rw[List.range_succ,List.flatMap_append,List.flatMap_cons,List.flatMap_nil,List.append_nil,List.getD_eq_getElem?_getD,List.getElem?_eq_getElem hk,Option.getD_some]
end Go.Dw
/- W15: the contract of the reference's turns. -/
namespace Go.Dw
open Go Go.Dx Go.Proofs Go.Mt
set_option maxRecDepth 100000
def mRow (p:Mach×Value):List Value:=[str p.1.name,p.2]
def lfI (h0:Heap)(p:Mach×Value):It:=slI h0 p.2 3 1 (p.1.places.map i64) p.1.places.length
def uOf (t:Task)(X:List (Mach×Value)):Task:=⟨t.first,t.days,X.map Prod.fst,t.reels⟩
def lowX (X:List (Mach×Value))(m d:Nat):List (Mach×Value):=X.modify m fun p=>(lowP d p.1,p.2)
def tRow (x:Turn):List Value:=[i64 x.reel,i64 x.machine,i64 x.day]
theorem turns_of {h0 h:Heap}{v:Value}{T:List Turn}(hF:FreshSl h0 h v 59 3 (T.flatMap tRow) T.length):∃a,v=.slice a T.length T.length/\TurnsAt h a T:=by
 rcases hF with ⟨rfl,_,hn⟩|⟨b,sp,op,rfl,hg,_⟩
 ·exact⟨none,by rw[hn],fun i hi=>by omega⟩
 ·exact⟨_,rfl,fun i hi=>⟨b,0,sp,rfl,_,rowAt_cells hg (by rw[Nat.zero_add];exact cut_flat hi fun _ _=>rfl),rfl⟩⟩
def TurnSt (t:Task)(X:List (Mach×Value))(T:List Turn)(r:Nat)(rest:List Nat)(before:Nat->Nat->Prop)(dn:Bool)(X':List (Mach×Value))(T':List Turn):Prop :=
 (dn=false/\X'=X/\T'=T/\∀d m,before d m->okC (uOf t X) r rest (d,m)=false)\/(dn=true/\∃d m,turnC (uOf t X) r rest=some (d,m)/\X'=lowX X m d/\T'=T++[⟨r,m,t.first+d⟩])
end Go.Dw
/- W16: the contract of the reference's Plan. -/
namespace Go.Dw
open Go Go.Dx Go.Proofs Go.Mt
set_option maxRecDepth 100000
theorem ints_nats {l:List Int}(h:∀x∈l,0<=x):ints (natsL l)=l:=by
 unfold ints natsL
 rw[List.map_map]
 conv=>rhs;rw[<-List.map_id l]
 exact List.map_congr_left fun x hx=>Int.toNat_of_nonneg (h x hx)
theorem keptI_ints (t:Task):ints (keptS t)=keptI t:=ints_nats fun _ h=>(keptI_in h).1
def PlanV (t:Task)(h:Heap)(v:Value):Prop:=∃a al,v=.tuple ⟨[.slice a (planS t).1.length (planS t).1.length,.slice al (planS t).2.1.length (planS t).2.1.length,i64 (planS t).2.2]⟩/\TurnsAt h a (planS t).1/\LatsAt h al (planS t).2.1
theorem planS_bad {t:Task}(h:errS t≠0):planS t=([],[],errS t):=if_pos h
theorem planS_ok {t:Task}(h:errS t=0):planS t=(turnsG t (keptS t),lateL t,0):=if_neg fun x=>x h
end Go.Dw
/- W13: more places, a further reel, with no program in sight. -/
namespace Go.Dw
open Go Go.Dx Go.Proofs Go.Mt
def namesOk:List (List UInt8)->List (List UInt8)->Prop
 | _,[]=>True
 | b,s::l=>nameErr s b=0/\namesOk (b++[s]) l
theorem goM_iff {t:Task}:∀{l:List Mach}{i:Nat}{b:List (List UInt8)},goM t i b l=none ↔ namesOk b (l.map Mach.name)/\∀m∈l,machErr t m=0
 | [],_,_=>by simp[goM,namesOk]
 | m::l,i,b=>by
  unfold goM
  split
  ·rename_i h
   simp only[reduceCtorEq,false_iff]
   exact fun g=>h g.1.1
  ·rename_i h1
   split
   ·rename_i h
    simp only[reduceCtorEq,false_iff]
    exact fun g=>h (g.2 m List.mem_cons_self)
   ·rename_i h2
    rw[goM_iff]
    constructor
    ·rintro⟨a,c⟩
     exact⟨⟨Classical.not_not.1 h1,a⟩,fun x hx=>by
      rcases List.mem_cons.1 hx with e|g
      ·rw[e];exact Classical.not_not.1 h2
      ·exact c x g⟩
    ·rintro⟨a,c⟩
     exact⟨a.2,fun x hx=>c x (List.mem_cons_of_mem _ hx)⟩
theorem goR_iff {t:Task}:∀{l:List Reel}{i:Nat}{b:List (List UInt8)},goR t i b l=none ↔ namesOk b (l.map Reel.name)/\∀m∈l,reelErr t m=0
 | [],_,_=>by simp[goR,namesOk]
 | m::l,i,b=>by
  unfold goR
  split
  ·rename_i h
   simp only[reduceCtorEq,false_iff]
   exact fun g=>h g.1.1
  ·rename_i h1
   split
   ·rename_i h
    simp only[reduceCtorEq,false_iff]
    exact fun g=>h (g.2 m List.mem_cons_self)
   ·rename_i h2
    rw[goR_iff]
    constructor
    ·rintro⟨a,c⟩
     exact⟨⟨Classical.not_not.1 h1,a⟩,fun x hx=>by
      rcases List.mem_cons.1 hx with e|g
      ·rw[e];exact Classical.not_not.1 h2
      ·exact c x g⟩
    ·rintro⟨a,c⟩
     exact⟨a.2,fun x hx=>c x (List.mem_cons_of_mem _ hx)⟩
structure NoErr (t:Task):Prop where
 first:0<=t.first/\t.first<=80000
 days:1<=t.days/\t.days<=60
 last:t.first+t.days-1<=80000
 ms:1<=t.machines.length/\t.machines.length<=4
 rs:t.reels.length<=24
 mn:namesOk [] (t.machines.map Mach.name)
 me:∀m∈t.machines,machErr t m=0
 rn:namesOk [] (t.reels.map Reel.name)
 re:∀r∈t.reels,reelErr t r=0
theorem errS_iff {t:Task}:errS t=0 ↔ NoErr t:=by
 unfold errS checkS
 constructor
 ·intro h
  split at h
  ·cases h
  ·rename_i h1
   split at h
   ·cases h
   ·rename_i h2
    split at h
    ·rename_i x hx;exact absurd h (goM_e hx)
    ·rename_i hM
     split at h
     ·rename_i x hx;exact absurd h (goR_e hx)
     ·rename_i hR
      exact⟨by omega,by omega,by omega,by omega,by omega,(goM_iff.1 hM).1,(goM_iff.1 hM).2,(goR_iff.1 hR).1,(goR_iff.1 hR).2⟩
 ·intro h
  have h1:=h.first
  have h2:=h.days
  have h3:=h.last
  have h4:=h.ms
  have h5:=h.rs
  rw[if_neg (by omega),if_neg (by omega),goM_iff.2 ⟨h.mn,h.me⟩,goR_iff.2 ⟨h.rn,h.re⟩]
def MoreM (x y:Mach):Prop:=y.name=x.name/\y.places.length=x.places.length/\∀d,x.places.getD d 0<=y.places.getD d 0/\(d<x.places.length->0<=y.places.getD d 0/\y.places.getD d 0<=20)
def MoreR (t:Task)(x y:Reel):Prop:=y.name=x.name/\y.machines=x.machines/\y.risk=x.risk/\y.ready<=x.ready/\x.due<=y.due/\t.first<=y.ready/\y.due<=t.first+t.days-1
structure MoreT (t u:Task):Prop where
 first:u.first=t.first
 days:u.days=t.days
 ml:u.machines.length=t.machines.length
 rl:u.reels.length=t.reels.length
 ms:∀i (h:i<t.machines.length) (h':i<u.machines.length),MoreM t.machines[i] u.machines[i]
 rs:∀i (h:i<t.reels.length) (h':i<u.reels.length),MoreR t t.reels[i] u.reels[i]
theorem MoreT.fit {t u:Task}(h:MoreT t u)(hE:NoErr t){K:List Nat}(hK:K.Nodup)(hf:fitN t K):fitN u K:=by
 have hV:=valid_of (errS_iff.2 hE)
 have hl:∀r∈K,r<t.reels.length:=by
  obtain⟨f,h1,_⟩:=hf
  exact fun r hr=>places_lt (h1 r hr)
 rw[fitN_cells hK] at hf ⊢
 refine fitC_mono (fun r hr c hc=>?_) (fun r hr c hc=>?_) hf
 ·obtain⟨_,r2,_,r4,r5,_⟩:=h.rs r (hl r hr) (by rw[h.rl];exact hl r hr)
  unfold adjM at hc ⊢
  rw[reelAt_nat (hl r hr)] at hc
  rw[reelAt_nat (by rw[h.rl];exact hl r hr),r2]
  exact⟨hc.1,by omega,by omega⟩
 ·obtain⟨m,d⟩:=c
  obtain⟨m',d',rfl,rfl,hm,hd⟩:=adjM_cell hV (hl r hr) hc
  show (capT t (m':Int) (t.first+(d':Int))).toNat<=(capT u (m':Int) (t.first+(d':Int))).toNat
  have e:=capT_M (u:=u) (m:=m') (d:=d')
  rw[h.first] at e
  rw[capT_M,e]
  have h1:=((h.ms m' hm (by rw[h.ml];exact hm)).2.2 d').1
  unfold capM
  rw[List.getD_eq_getElem?_getD (l:=t.machines),List.getElem?_eq_getElem hm,List.getD_eq_getElem?_getD (l:=u.machines),List.getElem?_eq_getElem (by rw[h.ml];exact hm)]
  simp only[Option.getD_some]
  omega
theorem MoreT.risk {t u:Task}(h:MoreT t u){r:Nat}(hr:r<t.reels.length):riskT u r=riskT t r:=by
 unfold riskT riskN
 rw[reelAt_nat hr,reelAt_nat (by rw[h.rl];exact hr),(h.rs r hr (by rw[h.rl];exact hr)).2.2.1]
def plus (t:Task)(x:Reel):Task:=⟨t.first,t.days,t.machines,t.reels++[x]⟩
section
variable {t:Task}{x:Reel}
end
end Go.Dw
/- W14: without a late reel all else is the same, with no program in sight. -/
namespace Go.Dw
open Go Go.Dx Go.Proofs Go.Mt
def up (n k:Nat):Nat:=if k<n then k else k+1
def dn (n r:Nat):Nat:=if r<n then r else r-1
theorem dn_up (n k:Nat):dn n (up n k)=k:=by
 unfold dn up
 by_cases h:k<n
 ·rw[if_pos h,if_pos h]
 ·rw[if_neg h,if_neg (by omega)];omega
structure Less (t u:Task)(n:Nat):Prop where
 first:u.first=t.first
 days:u.days=t.days
 ms:u.machines=t.machines
 lt:n<t.reels.length
 len:u.reels.length+1=t.reels.length
 at':∀k,k<u.reels.length->reelAt u (k:Nat)=reelAt t (up n k:Nat)
section
variable {t u:Task}{n:Nat}
theorem Less.risk (h:Less t u n){k:Nat}(hk:k<u.reels.length):riskN u k=riskN t (up n k):=by unfold riskN;rw[h.at' k hk]
theorem fit_relabel {P:Type}{adj adj':Nat->P->Prop}{g g':Nat->Nat}(hg:∀k,g' (g k)=k){K:List Nat}(ha:∀k∈K,∀p,adj' k p ↔ adj (g k) p):Fit adj' K ↔ Fit adj (K.map g):=by
 constructor
 ·rintro⟨f,h1,h2⟩
  refine⟨fun r=>f (g' r),fun r hr=>?_,fun r hr s hs e=>?_⟩
  ·obtain⟨k,hk,rfl⟩:=List.mem_map.1 hr
   show adj (g k) (f (g' (g k)))
   rw[hg];exact (ha k hk _).1 (h1 k hk)
  ·obtain⟨k,hk,rfl⟩:=List.mem_map.1 hr
   obtain⟨j,hj,rfl⟩:=List.mem_map.1 hs
   simp only[hg] at e
   rw[h2 k hk j hj e]
 ·rintro⟨f,h1,h2⟩
  refine⟨fun k=>f (g k),fun k hk=>(ha k hk _).2 (h1 _ (List.mem_map.2 ⟨k,hk,rfl⟩)),fun k hk j hj e=>?_⟩
  have:=h2 _ (List.mem_map.2 ⟨k,hk,rfl⟩) _ (List.mem_map.2 ⟨j,hj,rfl⟩) e
  rw[<-hg k,this,hg]
theorem Less.fit (h:Less t u n){K:List Nat}(hl:∀k∈K,k<u.reels.length):fitN u K ↔ fitN t (K.map (up n)):=by
 refine fit_relabel (g':=dn n) (dn_up n) fun k hk p=>?_
 obtain⟨m,d,j⟩:=p
 simp only[adjB,mem_placesL]
 rw[h.at' k (hl k hk)]
 unfold capT
 rw[h.ms,h.first]
def upP (n:Nat)(p:Nat×List Nat):Nat×List Nat:=(up n p.1,p.2.map (up n))
abbrev upI (n:Nat)(x:Int):Int:=((up n x.toNat:Nat):Int)
theorem Less.low (h:Less t u n)(m d:Nat):Less (low t m d) (low u m d) n:=⟨h.first,h.days,by show u.machines.modify m (lowP d)=t.machines.modify m (lowP d);rw[h.ms],h.lt,h.len,h.at'⟩
def dnT (n:Nat)(x:Turn):Turn:=⟨if (n:Int)<x.reel then x.reel-1 else x.reel,x.machine,x.day⟩
def lessL (n:Int)(l:List Int):List Int:=l.flatMap fun x=>if x<n then [x] else if n<x then [x-1] else []
def dnL (n:Nat)(x:Lat):Lat:=⟨if (n:Int)<x.reel then x.reel-1 else x.reel,lessL n x.by'⟩
end
end Go.Dw
