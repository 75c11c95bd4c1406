/- R1: the reference's grids: what lies where; what a store changes; the places that a grid says are taken. -/
import Derived.Test.YtcjmpdpgfmjcgaaGreatDoorMG12
import Derived.Test.YtcjmpdpgfmjcgaaGreatDoorMG2
namespace Go.Dw
open Go Go.Dx Go.Proofs Go.Mt
abbrev Cl:=Nat×Nat
def capN (t:Task)(c:Cl):Nat:=(capT t (c.1:Nat) (t.first+(c.2:Nat))).toNat
def pl (t:Task)(c:Cl)(n:Nat):Pl:=((c.1:Nat),t.first+(c.2:Nat),(n:Nat))
def cellP (t:Task)(c:Cl):List Pl:=(List.range (capN t c)).map (pl t c)
def cellsP (t:Task)(Sc:List Cl):List Pl:=Sc.flatMap (cellP t)
def gridT (t:Task)(G:Cl->List Nat):Pl->Option Nat:=fun p=>if 0<=p.1/\t.first<=p.2.1/\0<=p.2.2 then (G (p.1.toNat,(p.2.1-t.first).toNat))[p.2.2.toNat]? else none
def updC {α:Type}(G:Cl->α)(c:Cl)(x:α):Cl->α:=fun c'=>if c'=c then x else G c'
theorem updC_same {α:Type}(G:Cl->α)(c:Cl)(x:α):updC G c x c=x:=by simp[updC]
theorem updC_other {α:Type}(G:Cl->α){c c':Cl}(x:α)(h:c'≠c):updC G c x c'=G c':=by simp[updC,h]
def KE (els:TypeId->Prop)(h h':Heap):Prop:=∀b vs el op,els el->h.get b=some (.cells vs el op)->h'.get b=some (.cells vs el op)
theorem KE.refl (els:TypeId->Prop)(h:Heap):KE els h h:=fun _ _ _ _ _ x=>x
theorem KE.trans {els:TypeId->Prop}{h h1 h2:Heap}(a:KE els h h1)(b:KE els h1 h2):KE els h h2:=fun c vs el op hs x=>b _ _ _ _ hs (a _ _ _ _ hs x)
theorem KE.of {els:TypeId->Prop}{h h1:Heap}(a:Ext h h1):KE els h h1:=fun _ _ _ _ _ x=>a.get x
theorem KE.mono {els els':TypeId->Prop}{h h1:Heap}(a:KE els h h1)(hs:∀e,els' e->els e):KE els' h h1:=fun c vs el op hs' x=>a _ _ _ _ (hs _ hs') x
theorem KE.upd {els:TypeId->Prop}{h h1:Heap}{b:Nat}{o:AO}{vs:List Value}{el:TypeId}{op:Bool}(u:Upd h b o h1)(hg:h.get b=some (.cells vs el op))(hn:¬els el):KE els h h1:=fun c vs' el' op' hs x=>u.get (fun e=>by rw[e,hg] at x;cases x;exact hn hs) x
theorem cells_el {x:Option AO}{vs vs':List Value}{el el':TypeId}{op op':Bool}(h1:x=some (.cells vs el op))(h2:x=some (.cells vs' el' op')):el=el':=by
 rw[h1] at h2;injection h2 with h2;injection h2
structure TakeAt (h0 h:Heap)(Mn Dn ob:Nat)(rb:Nat->Nat)(L:Cl->Value)(G:Cl->List Nat):Prop where
 o:h.get ob=some (.cells ((List.range Mn).map fun m=>.slice (some ⟨rb m,0,none⟩) Dn Dn) 160 false)
 row:∀m,m<Mn->h.get (rb m)=some (.cells ((List.range Dn).map fun d=>L (m,d)) 31 false)
 rinj:∀m,m<Mn->∀m',m'<Mn->rb m=rb m'->m=m'
 leaf:∀m d,m<Mn->d<Dn->FreshSl h0 h (L (m,d)) 3 1 ((G (m,d)).map fun (r:Nat)=>i64 r) (G (m,d)).length
 linj:∀m d m' d',m<Mn->d<Dn->m'<Mn->d'<Dn->∀b,blkOf (L (m,d))=some b->blkOf (L (m',d'))=some b->m=m'/\d=d'
 nr:∀m,m<Mn->h0.nx<=rb m
theorem FreshSl.at3 {h0 h:Heap}{v:Value}{el:TypeId}{sz:Nat}{cs:List Value}{n:Nat}(ho:FreshSl h0 h v el sz cs n){b:Nat}(hb:blkOf v=some b):(∃op,h.get b=some (.cells cs el op))/\h0.nx<=b:=by
 rcases ho with ⟨rfl,_⟩|⟨b',sp,op,rfl,h2,_,h4,_⟩
 ·cases hb
 ·cases hb;exact⟨⟨op,h2⟩,h4⟩
theorem TakeAt.ke {h0 h h':Heap}{Mn Dn ob:Nat}{rb:Nat->Nat}{L:Cl->Value}{G:Cl->List Nat}(a:TakeAt h0 h Mn Dn ob rb L G)(hk:KE (fun el=>el=160\/el=31\/el=3) h h'):TakeAt h0 h' Mn Dn ob rb L G :=
 ⟨hk _ _ _ _ (.inl rfl) a.o,fun m hm=>hk _ _ _ _ (.inr (.inl rfl)) (a.row m hm),a.rinj,fun m d hm hd=>(a.leaf m d hm hd).keep fun b o hb hg=>by
  obtain⟨⟨op,h1⟩,_⟩:=(a.leaf m d hm hd).at3 hb
  rw[h1] at hg;cases hg
  exact hk _ _ _ _ (.inr (.inr rfl)) h1,a.linj,a.nr⟩
theorem TakeAt.ext {h0 h h':Heap}{Mn Dn ob:Nat}{rb:Nat->Nat}{L:Cl->Value}{G:Cl->List Nat}(a:TakeAt h0 h Mn Dn ob rb L G)(he:Ext h h'):TakeAt h0 h' Mn Dn ob rb L G:=a.ke (KE.of he)
structure LookAt (h0 h:Heap)(Mn Dn sb:Nat)(sr:Nat->Nat)(Sc:List Cl):Prop where
 o:h.get sb=some (.cells ((List.range Mn).map fun m=>.slice (some ⟨sr m,0,none⟩) Dn Dn) 162 false)
 row:∀m,m<Mn->h.get (sr m)=some (.cells ((List.range Dn).map fun d=>.bool (decide ((m,d)∈Sc))) 4 false)
 rinj:∀m,m<Mn->∀m',m'<Mn->sr m=sr m'->m=m'
 nr:∀m,m<Mn->h0.nx<=sr m
theorem LookAt.ke {h0 h h':Heap}{Mn Dn sb:Nat}{sr:Nat->Nat}{Sc:List Cl}(a:LookAt h0 h Mn Dn sb sr Sc)(hk:KE (fun el=>el=162\/el=4) h h'):LookAt h0 h' Mn Dn sb sr Sc :=
 ⟨hk _ _ _ _ (.inl rfl) a.o,fun m hm=>hk _ _ _ _ (.inr rfl) (a.row m hm),a.rinj,a.nr⟩
theorem LookAt.ext {h0 h h':Heap}{Mn Dn sb:Nat}{sr:Nat->Nat}{Sc:List Cl}(a:LookAt h0 h Mn Dn sb sr Sc)(he:Ext h h'):LookAt h0 h' Mn Dn sb sr Sc:=a.ke (KE.of he)
theorem range_set {Dn d:Nat}(f:Nat->Value)(x:Value)(hd:d<Dn):((List.range Dn).map f).set d x=(List.range Dn).map fun e=>if e=d then x else f e:=by
 apply List.ext_getElem
 ·simp
 ·intro i h1 h2
  simp only[List.length_set,List.length_map,List.length_range] at h1
  rw[List.getElem_set,List.getElem_map,List.getElem_map,List.getElem_range]
  by_cases h:i=d
  ·subst h;simp
  ·rw[if_neg (fun e=>h e.symm),if_neg h]
theorem LookAt.mark {h0 h h':Heap}{Mn Dn sb m d:Nat}{sr:Nat->Nat}{Sc:List Cl}(a:LookAt h0 h Mn Dn sb sr Sc)(hm:m<Mn)(hd:d<Dn)(hU:Upd h (sr m) (.cells (((List.range Dn).map fun e=>.bool (decide ((m,e)∈Sc))).set d (.bool true)) 4 false) h'):LookAt h0 h' Mn Dn sb sr (Sc++[(m,d)]):=by
 refine⟨hU.get (fun e=>?_) a.o,fun m' hm'=>?_,a.rinj,a.nr⟩
 ·exact absurd (cells_el (a.row m hm) (e ▸ a.o)) (by decide)
 ·by_cases hmm:m'=m
  ·subst hmm
   rw[hU.at',range_set _ _ hd]
   congr 3
   funext e
   by_cases he:e=d
   ·subst he;rw[if_pos rfl];simp
   ·rw[if_neg he]
    congr 1
    simp only[List.mem_append,List.mem_singleton,Prod.mk.injEq,he,and_false,or_false]
  ·rw[hU.other _ (fun e=>hmm (a.rinj m' hm' m hm e)),a.row m' hm']
   congr 3
   funext e
   congr 1
   simp only[List.mem_append,List.mem_singleton,Prod.mk.injEq,hmm,false_and,or_false]
theorem TakeAt.put {h0 h h':Heap}{Mn Dn ob m d i r b:Nat}{rb:Nat->Nat}{L:Cl->Value}{G:Cl->List Nat}{op:Bool}(a:TakeAt h0 h Mn Dn ob rb L G)(hm:m<Mn)(hd:d<Dn)(hi:i<(G (m,d)).length)(hb:blkOf (L (m,d))=some b)(hU:Upd h b (.cells (((G (m,d)).map fun (r:Nat)=>i64 r).set i (i64 r)) 3 op) h'):TakeAt h0 h' Mn Dn ob rb L (updC G (m,d) ((G (m,d)).set i r)):=by
 obtain⟨⟨op0,hg⟩,hn⟩:=(a.leaf m d hm hd).at3 hb
 refine⟨hU.get (fun e=>?_) a.o,fun m' hm'=>hU.get (fun e=>?_) (a.row m' hm'),a.rinj,fun m' d' hm' hd'=>?_,a.linj,a.nr⟩
 ·exact absurd (cells_el hg (e ▸ a.o)) (by decide)
 ·exact absurd (cells_el hg (e ▸ a.row m' hm')) (by decide)
 ·by_cases hc:(m',d')=(m,d)
  ·cases hc
   rw[updC_same,List.length_set,List.map_set]
   rcases a.leaf m d hm hd with ⟨e,_⟩|⟨b',sp,op',e,h2,h3,h4,h5⟩
   ·rw[e] at hb;cases hb
   ·rw[e] at hb;cases hb
    exact .inr ⟨b',sp,op,e,hU.at',by simp,h4,h5⟩
  ·rw[updC_other _ _ hc]
   refine (a.leaf m' d' hm' hd').keep fun b' o hb' hg'=>hU.get (fun e=>hc ?_) hg'
   obtain⟨e1,e2⟩:=a.linj m' d' m d hm' hd' hm hd b' hb' (e ▸ hb)
   rw[e1,e2]
theorem TakeAt.push {h0 h h1 h':Heap}{Mn Dn ob m d r:Nat}{rb:Nat->Nat}{L:Cl->Value}{G:Cl->List Nat}{v:Value}(a:TakeAt h0 h Mn Dn ob rb L G)(hw:WF h)(hm:m<Mn)(hd:d<Dn)(hF:FreshSl h0 h1 v 3 1 (((G (m,d)).map fun (r:Nat)=>i64 r)++[i64 (r:Nat)]) ((G (m,d)).length+1))(hK:Keep h h1 (blkOf (L (m,d))))(hv:blkOf v=blkOf (L (m,d))\/∃b,blkOf v=some b/\h.nx<=b)
  (hU:Upd h1 (rb m) (.cells (((List.range Dn).map fun e=>L (m,e)).set d v) 31 false) h'):TakeAt h0 h' Mn Dn ob rb (updC L (m,d) v) (updC G (m,d) (G (m,d)++[r])):=by
 have hro:∀m',m'<Mn->h1.get (rb m')=some (.cells ((List.range Dn).map fun d=>L (m',d)) 31 false):=fun m' hm'=>hK _ _ (fun e=>by
  obtain⟨⟨op0,hg⟩,_⟩:=(a.leaf m d hm hd).at3 e
  exact absurd (cells_el hg (a.row m' hm')) (by decide)) (a.row m' hm')
 have hoo:h1.get ob=_:=hK _ _ (fun e=>by
  obtain⟨⟨op0,hg⟩,_⟩:=(a.leaf m d hm hd).at3 e
  exact absurd (cells_el hg a.o) (by decide)) a.o
 have hlt:∀m' d' b,m'<Mn->d'<Dn->blkOf (L (m',d'))=some b->b<h.nx:=fun m' d' b hm' hd' hb=>by
  obtain⟨⟨op0,hg⟩,_⟩:=(a.leaf m' d' hm' hd').at3 hb
  exact hw _ _ hg
 have hleaf:∀m' d',m'<Mn->d'<Dn->FreshSl h0 h1 (updC L (m,d) v (m',d')) 3 1 ((updC G (m,d) (G (m,d)++[r]) (m',d')).map fun (r:Nat)=>i64 r) (updC G (m,d) (G (m,d)++[r]) (m',d')).length:=fun m' d' hm' hd'=>by
  by_cases hc:(m',d')=(m,d)
  ·rw[hc,updC_same,updC_same,List.map_append,List.length_append]
   exact hF
  ·rw[updC_other _ _ hc,updC_other _ _ hc]
   refine (a.leaf m' d' hm' hd').keep fun b o hb hg=>hK _ _ (fun e=>hc ?_) hg
   obtain⟨e1,e2⟩:=a.linj m' d' m d hm' hd' hm hd b hb e
   rw[e1,e2]
 refine⟨hU.get (fun e=>?_) hoo,fun m' hm'=>?_,a.rinj,fun m' d' hm' hd'=>(hleaf m' d' hm' hd').keep fun b o hb hg=>hU.get (fun e=>?_) hg,fun m1 d1 m2 d2 hm1 hd1 hm2 hd2 b hb1 hb2=>?_,a.nr⟩
 ·exact absurd (cells_el (hro m hm) (e ▸ hoo)) (by decide)
 ·by_cases hmm:m'=m
  ·subst hmm
   rw[hU.at',range_set _ _ hd]
   congr 3
   funext e
   by_cases he:e=d
   ·subst he;rw[if_pos rfl,updC_same]
   ·rw[if_neg he,updC_other _ _ (fun x=>he (by cases x;rfl))]
  ·rw[hU.other _ (fun e=>hmm (a.rinj m' hm' m hm e)),hro m' hm']
   congr 3
   funext e
   rw[updC_other _ _ (fun x=>hmm (by cases x;rfl))]
 ·obtain⟨⟨op0,h2⟩,_⟩:=(hleaf m' d' hm' hd').at3 hb
  exact absurd (cells_el (hro m hm) (e ▸ h2)) (by decide)
 ·by_cases h1:(m1,d1)=(m,d)
  ·by_cases h2:(m2,d2)=(m,d)
   ·cases h1;cases h2;exact⟨rfl,rfl⟩
   ·rw[h1,updC_same] at hb1
    rw[updC_other _ _ h2] at hb2
    rcases hv with e|⟨b',e,hb'⟩
    ·rw[e] at hb1
     obtain⟨e1,e2⟩:=a.linj m2 d2 m d hm2 hd2 hm hd b hb2 hb1
     exact (h2 (by rw[e1,e2])).elim
    ·rw[e] at hb1;cases hb1
     have:=hlt m2 d2 _ hm2 hd2 hb2;omega
  ·rw[updC_other _ _ h1] at hb1
   by_cases h2:(m2,d2)=(m,d)
   ·rw[h2,updC_same] at hb2
    rcases hv with e|⟨b',e,hb'⟩
    ·rw[e] at hb2
     obtain⟨e1,e2⟩:=a.linj m1 d1 m d hm1 hd1 hm hd b hb1 hb2
     exact (h1 (by rw[e1,e2])).elim
    ·rw[e] at hb2;cases hb2
     have:=hlt m1 d1 _ hm1 hd1 hb1;omega
   ·rw[updC_other _ _ h2] at hb2
    exact a.linj m1 d1 m2 d2 hm1 hd1 hm2 hd2 b hb1 hb2
end Go.Dw
/- R2: the contract of the reference's search for a place (find). -/
namespace Go.Dw
open Go Go.Dx Go.Proofs Go.Mt
set_option maxRecDepth 100000
structure FK where
 h0:Heap
 t:Task
 am:Option Addr
 ar:Option Addr
 cm:Nat
 cr:Nat
 ob:Nat
 rb:Nat->Nat
 sb:Nat
 sr:Nat->Nat
def FK.tc (k:FK):List Value:=[i64 k.t.first,i64 k.t.days,.slice k.am k.t.machines.length k.cm,.slice k.ar k.t.reels.length k.cr]
abbrev FK.Take (k:FK)(h:Heap)(L:Cl->Value)(G:Cl->List Nat):Prop:=TakeAt k.h0 h k.t.machines.length k.t.days.toNat k.ob k.rb L G
abbrev FK.Look (k:FK)(h:Heap)(Sc:List Cl):Prop:=LookAt k.h0 h k.t.machines.length k.t.days.toNat k.sb k.sr Sc
structure FK.OK (k:FK):Prop where
 hw:WF k.h0
 hM:RowsAt 2 MachAt k.h0 k.am k.t.machines
 hR:RowsAt 5 ReelAt k.h0 k.ar k.t.reels
 hf:k.t.Fit
 hV:Valid k.t
def GOK (t:Task)(G:Cl->List Nat):Prop:=∀c,(G c).length<=capN t c/\∀s∈G c,s<t.reels.length
abbrev adjF (t:Task):Nat->Pl->Prop:=adjB t fun _=>false
abbrev KF (h h':Heap):Prop:=KE (fun el=>el≠31/\el≠3/\el≠4) h h'
def FindPost (k:FK)(Sc:List Cl)(G:Cl->List Nat)(r:Nat)(h:Heap)(v:Value)(h':Heap):Prop :=
 ∃L' G' Sc',Ext k.h0 h'/\KF h h'/\k.Take h' L' G'/\GOK k.t G'/\k.Look h' Sc'/\Sc'.Nodup/\(∀c∈Sc,c∈Sc') ∧
  ((v=.bool true/\Won (adjF k.t) (cellsP k.t Sc) (gridT k.t G) (gridT k.t G') r)\/(v=.bool false/\G'=G/\Lost (adjF k.t) (cellsP k.t Sc) (cellsP k.t Sc') (gridT k.t G) r))
def FI (k:FK)(Sc:List Cl)(G:Cl->List Nat)(r:Nat)(h h':Heap)(m d:Nat):Prop :=
 Ext k.h0 h'/\KF h h'/\∃L' Sc',k.Take h' L' G/\k.Look h' Sc'/\Sc'.Nodup/\(∀c∈Sc,c∈Sc')/\Vain (adjF k.t) (cellsP k.t Sc) (cellsP k.t Sc') (gridT k.t G) ∧
  ∀m' d',(m'<m\/(m'=m/\d'<d))->m'<k.t.machines.length->d'<k.t.days.toNat->canB k.t r (m':Nat) (d':Nat)=true->(m',d')∈Sc'
def allC (t:Task):List Cl:=(List.range t.machines.length).flatMap fun m=>(List.range t.days.toNat).map fun d=>(m,d)
def unseenC (t:Task)(Sc:List Cl):Nat:=((allC t).filter fun c=>decide (c ∉ Sc)).length
theorem nth_range {f:Nat->Value}{n i:Nat}(hi:i<n):nth ((List.range n).map f) (0+i*1)=some (f i):=by
 rw[nth_eq,show 0+i*1=i by omega];simp[hi]
theorem LookAt.rc {h0 h:Heap}{Mn Dn sb m d:Nat}{sr:Nat->Nat}{Sc:List Cl}(a:LookAt h0 h Mn Dn sb sr Sc)(hm:m<Mn)(hd:d<Dn):cellAt h (sr m) (0+d*1)=some (.bool (decide ((m,d)∈Sc))):=cellAt_cells (a.row m hm) (nth_range hd)
theorem TakeAt.rc {h0 h:Heap}{Mn Dn ob m d:Nat}{rb:Nat->Nat}{L:Cl->Value}{G:Cl->List Nat}(a:TakeAt h0 h Mn Dn ob rb L G)(hm:m<Mn)(hd:d<Dn):cellAt h (rb m) (0+d*1)=some (L (m,d)):=cellAt_cells (a.row m hm) (nth_range hd)
end Go.Dw
/- R3: the contract of the reference's fits. -/
namespace Go.Dw
open Go Go.Dx Go.Proofs Go.Mt
set_option maxRecDepth 100000
structure RowsM (h0 h:Heap)(Mn Dn ob:Nat)(e1 e2:TypeId)(x:Value)(j:Nat)(R:Nat->Nat):Prop where
 o:h.get ob=some (.cells ((List.range Mn).map fun m=>if m<j then .slice (some ⟨R m,0,none⟩) Dn Dn else .slice none 0 0) e1 false)
 row:∀m,m<j->h.get (R m)=some (.cells ((List.range Dn).map fun _=>x) e2 false)
 inj:∀m,m<j->∀m',m'<j->R m=R m'->m=m'
 nr:∀m,m<j->h0.nx<=R m
theorem RowsM.ext {h0 h h':Heap}{Mn Dn ob j:Nat}{e1 e2:TypeId}{x:Value}{R:Nat->Nat}(a:RowsM h0 h Mn Dn ob e1 e2 x j R)(he:Ext h h'):RowsM h0 h' Mn Dn ob e1 e2 x j R :=
 ⟨he.get a.o,fun m hm=>he.get (a.row m hm),a.inj,a.nr⟩
theorem RowsM.step {h0 h h1 h2:Heap}{Mn Dn ob j:Nat}{e1 e2:TypeId}{x:Value}{R:Nat->Nat}(a:RowsM h0 h Mn Dn ob e1 e2 x j R)(hw:WF h)(h0n:h0.nx<=h.nx)(hE:Ext h h1)(hg:h1.get h.nx=some (.cells ((List.range Dn).map fun _=>x) e2 false))(hne:e1≠e2)(hj:j<Mn)
  (hU:Upd h1 ob (.cells (((List.range Mn).map fun m=>if m<j then .slice (some ⟨R m,0,none⟩) Dn Dn else .slice none 0 0).set j (.slice (some ⟨h.nx,0,none⟩) Dn Dn)) e1 false) h2):RowsM h0 h2 Mn Dn ob e1 e2 x (j+1) (fun m=>if m=j then h.nx else R m):=by
 have hlt:∀m,m<j->R m<h.nx:=fun m hm=>hw _ _ (a.row m hm)
 refine⟨?_,fun m hm=>?_,fun m hm m' hm' e=>?_,fun m hm=>?_⟩
 ·rw[hU.at',range_set _ _ hj]
  congr 3
  funext m
  by_cases h3:m=j
  ·subst h3;simp
  ·rw[if_neg h3]
   by_cases h4:m<j
   ·rw[if_pos h4,if_pos (by omega),if_neg h3]
   ·rw[if_neg h4,if_neg (by omega)]
 ·by_cases h3:m=j
  ·subst h3
   simp only[if_true]
   exact hU.get (fun e=>hne (cells_el (hE.get a.o) (e ▸ hg))) hg
  ·simp only[h3,if_false]
   have hr:=hE.get (a.row m (by omega))
   exact hU.get (fun e=>hne (cells_el (hE.get a.o) (e ▸ hr))) hr
 ·by_cases h3:m=j <;> by_cases h4:m'=j <;> simp only[h3,h4,if_true,if_false] at e
  ·omega
  ·have:=hlt m' (by omega);omega
  ·have:=hlt m (by omega);omega
  ·exact a.inj m (by omega) m' (by omega) e
 ·by_cases h3:m=j
  ·simp only[h3,if_true];exact h0n
  ·simp only[h3,if_false];exact a.nr m (by omega)
theorem RowsM.take {h0 h:Heap}{Mn Dn ob:Nat}{R:Nat->Nat}(a:RowsM h0 h Mn Dn ob 160 31 (.slice none 0 0) Mn R):TakeAt h0 h Mn Dn ob R (fun _=>.slice none 0 0) (fun _=>[]):=by
 refine⟨?_,a.row,a.inj,fun _ _ _ _=>FreshSl.nil _ _ _ _,(fun _ _ _ _ _ _ _ _ _ hb=>nomatch hb),a.nr⟩
 rw[a.o]
 congr 2
 exact List.map_congr_left fun m hm=>if_pos (List.mem_range.1 hm)
theorem RowsM.look {h0 h:Heap}{Mn Dn sb:Nat}{R:Nat->Nat}(a:RowsM h0 h Mn Dn sb 162 4 (.bool false) Mn R):LookAt h0 h Mn Dn sb R []:=by
 refine⟨?_,fun m hm=>?_,a.inj,a.nr⟩
 ·rw[a.o]
  congr 2
  exact List.map_congr_left fun m hm=>if_pos (List.mem_range.1 hm)
 ·rw[a.row m hm]
  simp
theorem rep_range (x:Value)(n:Nat):rep n [x]=(List.range n).map fun _=>x:=by
 apply List.ext_getElem?
 intro i
 by_cases h:i<n
 ·rw[rep_get [x] n i (by simpa using h)]
  simp[h,Nat.mod_one]
 ·rw[List.getElem?_eq_none (by rw[rep_length];simp;omega),List.getElem?_eq_none (by simp;omega)]
end Go.Dw
