/- SA: chapter 11 with no program in sight: a task, what is wrong with it. -/
import Derived.Test.YtfgeelpahicelaaGreatDoorUG3
import Derived.Test.YtfgeelpahicelaaGreatDoorUG2
set_option linter.unusedVariables false
set_option linter.unusedSimpArgs false
namespace Go.Dw
open Go Go.Dx Go.Proofs
structure Sp where
 lo:Int
 hi:Int
structure ScV where
 name:List UInt8
 land:Int
 proj:Int
 speeds:Sp
 change:Int
 spool:Int
 turn:Int
 digital:Bool
structure ScR where
 work:List UInt8
 version:List UInt8
 land:Int
 days:Sp
structure ScP where
 name:List UInt8
 work:List UInt8
 version:List UInt8
 reels:List Int
 speeds:Sp
 land:Int
structure ScPk where
 name:List UInt8
 work:List UInt8
 version:List UInt8
 frames:Int
 speed:Int
structure ScK where
 pack:Int
 venue:Int
 window:Sp
structure ScL where
 print:Int
 venue:Int
 days:Sp
structure ScT where
 first:Int
 lands:List (List UInt8)
 travel:List (List Int)
 venues:List ScV
 rights:List ScR
 prints:List ScP
 packs:List ScPk
 keys:List ScK
 loans:List ScL
def nameErr (s:List UInt8)(before:List (List UInt8)):Int:=if nameR s=false then 6 else if s∈before then 5 else 0
def oddS (s:Sp)(lo hi:Int):Int:=if (s.lo<lo\/hi<s.lo)\/(s.hi<lo\/hi<s.hi) then 7 else if s.hi<s.lo then 2 else 0
def travelErr (t:ScT):Int :=
 if t.travel.length≠t.lands.length then 2 else if (t.travel.any fun l=>decide (l.length≠t.lands.length))=true then 2
 else if (t.travel.any fun l=>l.any fun n=>decide (n < -1\/60<n))=true then 7 else 0
def abroad (t:ScT)(n:Int):Prop:=n<0\/(t.lands.length:Int)-1<n
instance (t:ScT)(n:Int):Decidable (abroad t n):=inferInstanceAs (Decidable (n<0\/_<n))
def venueErr (t:ScT)(v:ScV):Int :=
 if abroad t v.land then 4 else if (v.proj<0\/2<v.proj)\/(v.change<0\/60<v.change)\/(v.turn<0\/60<v.turn)\/(v.spool<1\/200000<v.spool) then 7 else oddS v.speeds 1 60
def rightErr (t:ScT)(r:ScR):Int :=
 if nameR r.work=false\/(r.version≠[]/\nameR r.version=false) then 6 else if abroad t r.land then 4 else oddS r.days 0 80000
def printErr (t:ScT)(p:ScP):Int :=
 if nameR p.work=false\/nameR p.version=false then 6 else if p.reels.length<1\/12<p.reels.length then 3
 else if (p.reels.any fun n=>decide (n<1\/200000<n))=true then 7 else if oddS p.speeds 1 60≠0 then oddS p.speeds 1 60 else if abroad t p.land then 4 else 0
def packErr (p:ScPk):Int :=
 if nameR p.work=false\/nameR p.version=false then 6 else if (p.frames<1\/2400000<p.frames)\/(p.speed<1\/60<p.speed) then 7 else 0
def keyErr (t:ScT)(k:ScK):Int :=
 if (k.pack<0\/(t.packs.length:Int)-1<k.pack)\/(k.venue<0\/(t.venues.length:Int)-1<k.venue) then 4 else oddS k.window 0 57600
def loanErr (t:ScT)(l:ScL):Int :=
 if (l.print<0\/(t.prints.length:Int)-1<l.print)\/(l.venue<0\/(t.venues.length:Int)-1<l.venue) then 4 else oddS l.days 0 80000
def goNm {α:Type}(nm:α->List UInt8)(wrong:α->Int):Nat->List (List UInt8)->List α->Option (Nat×Int)
 | _,_,[]=>none
 | i,b,x::xs=>if nameErr (nm x) b≠0 then some (i,nameErr (nm x) b) else if wrong x≠0 then some (i,wrong x) else goNm nm wrong (i+1) (b++[nm x]) xs
def goEa {α:Type}(wrong:α->Int):Nat->List α->Option (Nat×Int)
 | _,[]=>none
 | i,x::xs=>if wrong x≠0 then some (i,wrong x) else goEa wrong (i+1) xs
def orE (part:Int):Option (Nat×Int)->Int×Int×Int->Int×Int×Int
 | some (i,e),_=>(part,(i:Nat),e)
 | none,x=>x
def checkSc (t:ScT):Int×Int×Int :=
 if t.first<0\/80000<t.first then (1,0,7)
 else if (t.lands.length<1\/8<t.lands.length)\/(t.venues.length<1\/8<t.venues.length)\/30<t.rights.length\/12<t.prints.length\/12<t.packs.length\/30<t.keys.length\/30<t.loans.length then (1,0,3)
 else orE 2 (goNm id (fun _=>0) 0 [] t.lands) (if travelErr t≠0 then (2,0,travelErr t)
 else orE 3 (goNm ScV.name (venueErr t) 0 [] t.venues) (orE 4 (goEa (rightErr t) 0 t.rights) (orE 5 (goNm ScP.name (printErr t) 0 [] t.prints) (orE 6 (goNm ScPk.name packErr 0 [] t.packs)
  (orE 7 (goEa (keyErr t) 0 t.keys) (orE 8 (goEa (loanErr t) 0 t.loans) (0,0,0)))))))
def errSc (t:ScT):Int:=(checkSc t).2.2
def spVs (s:Sp):List Value:=[i64 s.lo,i64 s.hi]
def ScVR (_:Heap)(row:List Value)(v:ScV):Prop:=row=[str v.name,i64 v.land,i64 v.proj,i64 v.speeds.lo,i64 v.speeds.hi,i64 v.change,i64 v.spool,i64 v.turn,.bool v.digital]
def ScRR (_:Heap)(row:List Value)(r:ScR):Prop:=row=[str r.work,str r.version,i64 r.land,i64 r.days.lo,i64 r.days.hi]
def ScPR (h:Heap)(row:List Value)(p:ScP):Prop:=∃a c,row=[str p.name,str p.work,str p.version,.slice a p.reels.length c,i64 p.speeds.lo,i64 p.speeds.hi,i64 p.land]/\IntsAt h a p.reels
def ScPkR (_:Heap)(row:List Value)(p:ScPk):Prop:=row=[str p.name,str p.work,str p.version,i64 p.frames,i64 p.speed]
def ScKR (_:Heap)(row:List Value)(k:ScK):Prop:=row=[i64 k.pack,i64 k.venue,i64 k.window.lo,i64 k.window.hi]
def ScLR (_:Heap)(row:List Value)(l:ScL):Prop:=row=[i64 l.print,i64 l.venue,i64 l.days.lo,i64 l.days.hi]
def ScTvR (h:Heap)(row:List Value)(l:List Int):Prop:=∃a c,row=[.slice a l.length c]/\IntsAt h a l
structure ParL {α:Type}(enc:α->Value)(h:Heap)(a:Option Addr)(l:List α)(cap:Nat):Prop where
 at':ListAt enc h a l
 le:l.length<=cap
 plain:l≠[]->∃b o,a=some ⟨b,o,none⟩
theorem ParL.ext {α:Type}{enc:α->Value}{h h':Heap}{a:Option Addr}{l:List α}{cap:Nat}(p:ParL enc h a l cap)(he:Ext h h'):ParL enc h' a l cap:=⟨p.at'.ext he,p.le,p.plain⟩
theorem ParL.take {α:Type}{enc:α->Value}{h:Heap}{a:Option Addr}{l:List α}{cap:Nat}(p:ParL enc h a l cap)(k:Nat):ListAt enc h a (l.take k):=by
 intro i hi
 simp only[List.length_take] at hi
 obtain⟨b,o,oa,e,hc⟩:=p.at' i (by omega)
 exact⟨b,o,oa,e,by simpa only[List.getElem_take] using hc⟩
def ScTAt (h:Heap)(row:List Value)(t:ScT):Prop:=∃al cl at' ct a1 c1 a2 c2 a3 c3 a4 c4 a5 c5 a6 c6,row=[i64 t.first,.slice al t.lands.length cl,.slice at' t.travel.length ct,.slice a1 t.venues.length c1,.slice a2 t.rights.length c2,.slice a3 t.prints.length c3,.slice a4 t.packs.length c4,.slice a5 t.keys.length c5,.slice a6 t.loans.length c6] ∧
 ParL str h al t.lands cl/\RowsAt 1 ScTvR h at' t.travel/\RowsAt 9 ScVR h a1 t.venues/\RowsAt 5 ScRR h a2 t.rights/\RowsAt 7 ScPR h a3 t.prints/\RowsAt 5 ScPkR h a4 t.packs/\RowsAt 4 ScKR h a5 t.keys/\RowsAt 4 ScLR h a6 t.loans
theorem ScPR.ext {h h':Heap}{row:List Value}{p:ScP}(a:ScPR h row p)(he:Ext h h'):ScPR h' row p:=by
 obtain⟨x,c,e,h1⟩:=a
 exact⟨x,c,e,h1.ext he⟩
theorem ScTvR.ext {h h':Heap}{row:List Value}{l:List Int}(a:ScTvR h row l)(he:Ext h h'):ScTvR h' row l:=by
 obtain⟨x,c,e,h1⟩:=a
 exact⟨x,c,e,h1.ext he⟩
theorem ScTAt.ext {h h':Heap}{row:List Value}{t:ScT}(a:ScTAt h row t)(he:Ext h h'):ScTAt h' row t:=by
 obtain⟨al,cl,at',ct,a1,c1,a2,c2,a3,c3,a4,c4,a5,c5,a6,c6,e,h1,h2,h3,h4,h5,h6,h7,h8⟩:=a
 exact⟨al,cl,at',ct,a1,c1,a2,c2,a3,c3,a4,c4,a5,c5,a6,c6,e,h1.ext he,RowsAt.ext (R:=ScTvR) (fun x y=>ScTvR.ext x y) h2 he,RowsAt.ext (R:=ScVR) (fun x _=>x) h3 he,RowsAt.ext (R:=ScRR) (fun x _=>x) h4 he,RowsAt.ext (R:=ScPR) (fun x y=>ScPR.ext x y) h5 he,RowsAt.ext (R:=ScPkR) (fun x _=>x) h6 he,RowsAt.ext (R:=ScKR) (fun x _=>x) h7 he,RowsAt.ext (R:=ScLR) (fun x _=>x) h8 he⟩
structure ScV.Fit (v:ScV):Prop where
 name:Len v.name
 land:I64 v.land
 proj:I64 v.proj
 speeds:I64 v.speeds.lo/\I64 v.speeds.hi
 change:I64 v.change
 spool:I64 v.spool
 turn:I64 v.turn
structure ScR.Fit (r:ScR):Prop where
 work:Len r.work
 version:Len r.version
 land:I64 r.land
 days:I64 r.days.lo/\I64 r.days.hi
structure ScP.Fit (p:ScP):Prop where
 name:Len p.name
 work:Len p.work
 version:Len p.version
 reels:Len p.reels
 reelsI:∀n∈p.reels,I64 n
 speeds:I64 p.speeds.lo/\I64 p.speeds.hi
 land:I64 p.land
structure ScPk.Fit (p:ScPk):Prop where
 name:Len p.name
 work:Len p.work
 version:Len p.version
 frames:I64 p.frames
 speed:I64 p.speed
structure ScK.Fit (k:ScK):Prop where
 pack:I64 k.pack
 venue:I64 k.venue
 window:I64 k.window.lo/\I64 k.window.hi
structure ScL.Fit (l:ScL):Prop where
 print:I64 l.print
 venue:I64 l.venue
 days:I64 l.days.lo/\I64 l.days.hi
structure ScT.Fit (t:ScT):Prop where
 first:I64 t.first
 lands:Len t.lands
 landsL:∀s∈t.lands,Len s
 travel:Len t.travel
 travelL:∀l∈t.travel,Len l/\∀n∈l,I64 n
 venues:Len t.venues
 venuesF:∀v∈t.venues,v.Fit
 rights:Len t.rights
 rightsF:∀r∈t.rights,r.Fit
 prints:Len t.prints
 printsF:∀p∈t.prints,p.Fit
 packs:Len t.packs
 packsF:∀p∈t.packs,p.Fit
 keys:Len t.keys
 keysF:∀k∈t.keys,k.Fit
 loans:Len t.loans
 loansF:∀l∈t.loans,l.Fit
end Go.Dw
/- SB: chapter 11 with no program in sight: loans: in whatever order those of one day are looked at. -/
namespace Go.Dw
open Go Go.Dx Go.Proofs
def noV:ScV:=⟨[],0,0,⟨0,0⟩,0,0,0,false⟩
def venLand (t:ScT)(v:Int):Int:=(t.venues.getD v.toNat noV).land
def trv (t:ScT)(a b:Int):Int:=(t.travel.getD a.toNat []).getD b.toNat 0
def stopG (t:ScT)(at':Int)(fr:Option Int)(y:ScL):Bool :=
 decide (trv t at' (venLand t y.venue)<0) || (match fr with|none=>false|some f=>decide (y.days.lo-f<=trv t at' (venLand t y.venue)))
def goG (t:ScT):Int->Option Int->List ScL->Option Int
 | at',_,[]=>some at'
 | at',fr,y::l=>if stopG t at' fr y=true then none else goG t (venLand t y.venue) (some y.days.hi) l
def canG (t:ScT)(home:Int)(l:List ScL):Bool:=match goG t home none l with|none=>false|some at'=>decide (0<=trv t at' home)
def loLe (a b:ScL):Prop:=a.days.lo<=b.days.lo
theorem goG_twice {t:ScT}:∀{l:List ScL}{at':Int}{fr:Option Int},l.Pairwise loLe->(∀y∈l,y.days.lo<=y.days.hi)->¬(l.map fun y=>y.days.lo).Nodup->goG t at' fr l=none
 | [],_,_,_,_,h=>absurd List.nodup_nil h
 | [y],_,_,_,_,h=>absurd (by simp) h
 | y::z::l,at',fr,hs,hv,h=>by
  rw[goG]
  split
  ·rfl
  rw[List.pairwise_cons] at hs
  by_cases e:z.days.lo=y.days.lo
  ·rw[goG,if_pos]
   unfold stopG
   have:=hv y List.mem_cons_self
   by_cases n0:trv t (venLand t y.venue) (venLand t z.venue)<0
   ·rw[decide_eq_true n0];rfl
   ·simp only[Bool.or_eq_true,decide_eq_true_eq]
    right
    omega
  ·refine goG_twice hs.2 (fun x hx=>hv x (List.mem_cons_of_mem _ hx)) fun hn=>h ?_
   rw[List.map_cons,List.nodup_cons]
   refine⟨fun hm=>?_,hn⟩
   obtain⟨x,hx,ex⟩:=List.mem_map.1 hm
   have h1:=hs.1 z List.mem_cons_self
   unfold loLe at h1
   rcases List.mem_cons.1 hx with rfl|hx
   ·exact e ex
   ·have h2:=(List.pairwise_cons.1 hs.2).1 x hx
    unfold loLe at h2
    omega
theorem canG_twice {t:ScT}{home:Int}{l:List ScL}(hs:l.Pairwise loLe)(hv:∀y∈l,y.days.lo<=y.days.hi)(h:¬(l.map fun y=>y.days.lo).Nodup):canG t home l=false:=by
 unfold canG
 rw[goG_twice hs hv h]
theorem sorted_perm_eq {α:Type}{R:α->α->Prop}(hR:∀a b,R a b->R b a->False):∀{l l':List α},l.Perm l'->l.Pairwise R->l'.Pairwise R->l=l'
 | [],l',hp,_,_=>(List.Perm.nil_eq hp)
 | a::l,l',hp,hs,hs'=>by
  cases l' with
  | nil=>exact absurd hp.length_eq (by simp)
  | cons b l' =>
   rw[List.pairwise_cons] at hs hs'
   have e:a=b:=by
    rcases List.mem_cons.1 (hp.subset List.mem_cons_self) with e|g
    ·exact e
    ·rcases List.mem_cons.1 (hp.symm.subset List.mem_cons_self) with e|k
     ·exact e.symm
     ·exact (hR _ _ (hs.1 b k) (hs'.1 a g)).elim
   subst e
   rw[sorted_perm_eq hR ((List.perm_cons a).1 hp) hs.2 hs'.2]
theorem lt_of_nodup {l:List ScL}(hs:l.Pairwise loLe)(hn:(l.map fun y=>y.days.lo).Nodup):l.Pairwise fun a b=>a.days.lo<b.days.lo:=by
 induction l with
 | nil=>exact .nil
 | cons a l ih =>
  rw[List.pairwise_cons] at hs ⊢
  rw[List.map_cons,List.nodup_cons] at hn
  refine⟨fun b hb=>?_,ih hs.2 hn.2⟩
  have h1:=hs.1 b hb
  unfold loLe at h1
  have:a.days.lo≠b.days.lo:=fun e=>hn.1 (List.mem_map.2 ⟨b,hb,e.symm⟩)
  omega
theorem canG_perm {t:ScT}{home:Int}{l l':List ScL}(hp:l.Perm l')(hs:l.Pairwise loLe)(hs':l'.Pairwise loLe)(hv:∀y∈l,y.days.lo<=y.days.hi):canG t home l=canG t home l':=by
 by_cases hn:(l.map fun y=>y.days.lo).Nodup
 ·have hn':(l'.map fun y=>y.days.lo).Nodup:=(hp.map _).nodup_iff.1 hn
  rw[sorted_perm_eq (R:=fun a b:ScL=>a.days.lo<b.days.lo) (fun a b h1 h2=>by omega) hp (lt_of_nodup hs hn) (lt_of_nodup hs' hn')]
 ·have hn':¬(l'.map fun y=>y.days.lo).Nodup:=fun h=>hn ((hp.map _).nodup_iff.2 h)
  rw[canG_twice hs hv hn,canG_twice hs' (fun y hy=>hv y (hp.symm.subset hy)) hn']
def insG (g:ScL)(l:List ScL):List ScL:=l.takeWhile (fun y=>decide (y.days.lo<g.days.lo))++g::l.dropWhile (fun y=>decide (y.days.lo<g.days.lo))
theorem insG_perm (g:ScL)(l:List ScL):(insG g l).Perm (g::l):=by
 unfold insG
 have h:=List.takeWhile_append_dropWhile (p:=fun y:ScL=>decide (y.days.lo<g.days.lo)) (l:=l)
 refine List.perm_middle.trans ?_
 rw[h]
theorem insG_sorted {g:ScL}:∀{l:List ScL},l.Pairwise loLe->(insG g l).Pairwise loLe
 | [],_=>by unfold insG;simp
 | a::l,hs=>by
  rw[List.pairwise_cons] at hs
  by_cases c:a.days.lo<g.days.lo
  ·have e:insG g (a::l)=a::insG g l:=by unfold insG;rw[List.takeWhile_cons_of_pos (by simpa using c),List.dropWhile_cons_of_pos (by simpa using c)];rfl
   rw[e,List.pairwise_cons]
   refine⟨fun b hb=>?_,insG_sorted hs.2⟩
   rcases List.mem_cons.1 ((insG_perm g l).subset hb) with rfl|hb
   ·exact Int.le_of_lt c
   ·exact hs.1 b hb
  ·have e:insG g (a::l)=g::a::l:=by unfold insG;rw[List.takeWhile_cons_of_neg (by simpa using c),List.dropWhile_cons_of_neg (by simpa using c)];rfl
   rw[e,List.pairwise_cons,List.pairwise_cons]
   refine⟨fun b hb=>?_,hs⟩
   rcases List.mem_cons.1 hb with rfl|hb
   ·unfold loLe;omega
   ·have:=hs.1 b hb
    unfold loLe at this ⊢
    omega
def ofG (granted:List ScL)(x:ScL):List ScL:=granted.foldl (fun l g=>if g.print=x.print then insG g l else l) [x]
theorem ofG_sorted {granted:List ScL}{x:ScL}:(ofG granted x).Pairwise loLe:=by
 unfold ofG
 have:∀(l:List ScL),l.Pairwise loLe->(granted.foldl (fun l g=>if g.print=x.print then insG g l else l) l).Pairwise loLe:=by
  induction granted with
  | nil=>exact fun _ h=>h
  | cons g gs ih =>
   intro l hl
   rw[List.foldl_cons]
   refine ih _ ?_
   split
   ·exact insG_sorted hl
   ·exact hl
 exact this _ (by simp)
theorem ofG_perm {granted:List ScL}{x:ScL}:(ofG granted x).Perm (x::granted.filter fun g=>decide (g.print=x.print)):=by
 unfold ofG
 have:∀(l:List ScL),(granted.foldl (fun l g=>if g.print=x.print then insG g l else l) l).Perm (l++granted.filter fun g=>decide (g.print=x.print)):=by
  induction granted with
  | nil=>exact fun l=>by simp
  | cons g gs ih =>
   intro l
   rw[List.foldl_cons,List.filter_cons]
   by_cases c:g.print=x.print
   ·rw[if_pos c,if_pos (by simpa using c)]
    refine (ih _).trans ?_
    refine ((insG_perm g l).append_right _).trans ?_
    rw[List.cons_append]
    exact List.perm_middle.symm
   ·rw[if_neg c,if_neg (by simpa using c)]
    exact ih _
 exact this [x]
def noP:ScP:=⟨[],[],[],[],⟨0,0⟩,0⟩
def homeG (t:ScT)(p:Int):Int:=(t.prints.getD p.toNat noP).land
def grantS (t:ScT)(granted:List ScL)(x:ScL):Bool:=canG t (homeG t x.print) (ofG granted x)
def loansS (t:ScT):List ScL×List Int:=t.loans.foldl (fun s x=>if grantS t s.1 x=true then (s.1++[x],s.2++[0]) else (s.1,s.2++[210])) ([],[])
end Go.Dw
/- SC: chapter 11 with no program in sight: shows: how long, why not, which are kept. -/
namespace Go.Dw
open Go Go.Dx Go.Proofs
structure ScS where
 venue:Int
 print:Int
 pack:Int
 minute:Int
 speed:Int
 worth:Int
def ScSR (_:Heap)(row:List Value)(s:ScS):Prop:=row=[i64 s.venue,i64 s.print,i64 s.pack,i64 s.minute,i64 s.speed,i64 s.worth]
structure ScS.Fit (s:ScS):Prop where
 venue:I64 s.venue
 print:I64 s.print
 pack:I64 s.pack
 minute:I64 s.minute
 speed:I64 s.speed
 worth:I64 s.worth
def noPk:ScPk:=⟨[],[],[],0,0⟩
def venAt (t:ScT)(s:ScS):ScV:=t.venues.getD s.venue.toNat noV
def prAt (t:ScT)(s:ScS):ScP:=t.prints.getD s.print.toNat noP
def pkAt (t:ScT)(s:ScS):ScPk:=t.packs.getD s.pack.toNat noPk
def shownErr (t:ScT)(s:ScS):Int :=
 if s.venue<0\/(t.venues.length:Int)-1<s.venue then 4 else if (s.print = -1 ↔ s.pack = -1) then 2
 else if (s.print ≠ -1/\(s.print<0\/(t.prints.length:Int)-1<s.print))\/(s.pack ≠ -1/\(s.pack<0\/(t.packs.length:Int)-1<s.pack)) then 4
 else if (s.minute<0\/57600<s.minute)\/(s.speed<1\/60<s.speed)\/(s.worth<0\/1000000<s.worth) then 7 else 0
def upS (a b:Int):Int:=(a+b-1) / b
theorem upS_eq {a b:Int}(hb:1<=b):upS a b=(a-1) / b+1:=by
 unfold upS
 rw[show a+b-1=(a-1)+1*b by omega,Int.add_mul_ediv_right _ _ (by omega)]
theorem upS_pos {a b:Int}(ha:1<=a)(hb:1<=b):1<=upS a b:=by
 rw[upS_eq hb]
 have:=Int.ediv_nonneg (show 0<=a-1 by omega) (show 0<=b by omega)
 omega
theorem upS_le {a b:Int}(ha:1<=a)(hb:1<=b):upS a b<=a:=by
 rw[upS_eq hb]
 have:=Int.ediv_le_self b (show 0<=a-1 by omega)
 omega
theorem upS_mono {a a' b:Int}(hb:1<=b)(h:a<=a'):upS a b<=upS a' b:=by
 unfold upS
 exact Int.ediv_le_ediv (by omega) (by omega)
theorem upS_up {a b:Int}(hb:1<=b):upS (upS a b) 60=upS a (60*b):=by
 rw[upS_eq (show (1:Int)<=60 by decide),upS_eq hb,upS_eq (show 1<=60*b by omega),show (a-1) / b+1-1=(a-1) / b by omega,Int.ediv_ediv_of_nonneg (by omega),Int.mul_comm]
def secsS (l:List Int)(speed:Int):Int:=(l.map fun n=>upS n speed).sum
def longS (t:ScT)(s:ScS):Int :=
 if 0<=s.pack then upS (upS (pkAt t s).frames s.speed) 60
 else if (venAt t s).proj<2 then upS (secsS (prAt t s).reels s.speed) 60+(venAt t s).change*(((prAt t s).reels.length:Int)-1) else upS (secsS (prAt t s).reels s.speed) 60
def inSp (s all:Sp):Prop:=all.lo<=s.lo/\s.hi<=all.hi
instance (s all:Sp):Decidable (inSp s all):=inferInstanceAs (Decidable (_/\_))
def endS (t:ScT)(s:ScS):Int:=s.minute+longS t s
def daysS (t:ScT)(s:ScS):Sp:=⟨t.first+s.minute / 1440,t.first+(endS t s-1) / 1440⟩
def workS (t:ScT)(s:ScS):List UInt8:=if 0<=s.print then (prAt t s).work else (pkAt t s).work
def versS (t:ScT)(s:ScS):List UInt8:=if 0<=s.print then (prAt t s).version else (pkAt t s).version
def rightB (t:ScT)(s:ScS):Bool:=t.rights.any fun r=>decide (r.work=workS t s/\(r.version=[]\/r.version=versS t s)/\r.land=(venAt t s).land/\inSp (daysS t s) r.days)
def hereB (t:ScT)(s:ScS):Bool:=(loansS t).1.any fun l=>decide (l.print=s.print/\l.venue=s.venue/\inSp (daysS t s) l.days)
def filmS (t:ScT)(s:ScS):Int :=
 if hereB t s=false then 212 else if (venAt t s).proj=0\/¬((venAt t s).speeds.lo<=s.speed/\s.speed<=(venAt t s).speeds.hi)\/¬((prAt t s).speeds.lo<=s.speed/\s.speed<=(prAt t s).speeds.hi) then 215
 else if ((prAt t s).reels.any fun n=>decide ((venAt t s).spool<n))=true then 216 else 0
def keyB (t:ScT)(s:ScS):Bool:=t.keys.any fun k=>decide (k.pack=s.pack/\k.venue=s.venue/\inSp ⟨s.minute,endS t s⟩ k.window)
def digiS (t:ScT)(s:ScS):Int :=
 if (venAt t s).digital=false then 213 else if keyB t s=false then 214 else if s.speed≠(pkAt t s).speed then 215 else 0
def whyS (t:ScT)(s:ScS):Int:=if rightB t s=false then 211 else if 0<=s.print then filmS t s else digiS t s
def overS (t:ScT)(s:ScS):Int:=endS t s+(venAt t s).turn
def distB (t:ScT)(a b:ScS):Bool:=decide (a.venue=b.venue/\a.minute<overS t b/\b.minute<overS t a)
def busyS (t:ScT)(kept:List ScS)(s:ScS):Int:=if whyS t s≠0 then whyS t s else if (kept.any fun k=>distB t k s)=true then 217 else 0
def playS (t:ScT)(l:List ScS):List ScS×List Int:=l.foldl (fun p s=>(if busyS t p.1 s=0 then p.1++[s] else p.1,p.2++[busyS t p.1 s])) ([],[])
def listedS (t:ScT)(l:List ScS):Int:=if errSc t≠0 then errSc t else if 40<l.length then 3 else match l.find? fun s=>decide (shownErr t s≠0) with|some s=>shownErr t s|none=>0
end Go.Dw
/- SI: cuts with no program in sight: the frames that are left keep their order. -/
namespace Go.Dw
open Go Go.Dx Go.Proofs
structure Cut where
 a:Int
 b:Int
def CutR (_:Heap)(row:List Value)(c:Cut):Prop:=row=[i64 c.a,i64 c.b]
def cutGo:Int->List Cut->Int×Int
 | n,[]=>(n,0)
 | n,c::cs=>if (c.a<0\/n-1<c.a)\/(c.b<0\/n-1<c.b) then (0,7) else if c.b<c.a then (0,2) else cutGo (n-(c.b-c.a+1)) cs
def cutS (n:Int)(l:List Cut):Int×Int:=if n<1\/200000<n then (0,7) else if 30<l.length then (0,3) else cutGo n l
def afterC:List Cut->Int->Option Int
 | [],i=>some i
 | c::cs,i=>if c.a<=i/\i<=c.b then none else afterC cs (if c.b<i then i-(c.b-c.a+1) else i)
def CutsOk:Int->List Cut->Prop
 | _,[]=>True
 | n,c::cs=>0<=c.a/\c.a<=c.b/\c.b<n/\CutsOk (n-(c.b-c.a+1)) cs
theorem cutGo_ok:∀{l:List Cut}{n:Int},0<=n->(cutGo n l).2=0->CutsOk n l/\0<=(cutGo n l).1/\(cutGo n l).1<=n
 | [],n,h0,_=>⟨trivial,h0,Int.le_refl _⟩
 | c::cs,n,h0,h=>by
  rw[cutGo] at h ⊢
  split at h
  ·cases h
  ·rename_i h1
   rw[if_neg h1]
   split at h
   ·cases h
   ·rename_i h2
    rw[if_neg h2]
    obtain⟨i1,i2,i3⟩:=cutGo_ok (n:=n-(c.b-c.a+1)) (by omega) h
    exact⟨⟨by omega,by omega,by omega,i1⟩,i2,by omega⟩
def cntC (cs:List Cut)(i:Nat):Nat:=((List.range i).filter fun j:Nat=>(afterC cs (j:Int)).isSome).length
theorem cntC_succ (cs:List Cut)(i:Nat):cntC cs (i+1)=cntC cs i+if (afterC cs (i:Int)).isSome=true then 1 else 0:=by
 unfold cntC
 rw[List.range_succ,List.filter_append,List.length_append]
 congr 1
 rw[List.filter_cons]
 split <;> rfl
theorem cntC_cons {c:Cut}{cs:List Cut}{a b:Nat}(ha:c.a=a)(hb:c.b=b)(hab:a<=b):∀i,cntC (c::cs) i=if i<=a then cntC cs i else if i<=b+1 then cntC cs a else cntC cs (i-(b-a+1))
 | 0=>by rw[if_pos (Nat.zero_le _)];rfl
 | i+1=>by
  rw[cntC_succ,cntC_cons ha hb hab i]
  have e:afterC (c::cs) (i:Int)=if a<=i/\i<=b then none else afterC cs (if b<i then ((i-(b-a+1):Nat):Int) else (i:Int)):=by
   rw[afterC,ha,hb]
   by_cases h1:a<=i/\i<=b
   ·rw[if_pos h1,if_pos (by omega)]
   ·rw[if_neg h1,if_neg (by omega)]
    by_cases h2:b<i
    ·rw[if_pos h2,if_pos (by omega)]
     congr 1;omega
    ·rw[if_neg h2,if_neg (by omega)]
  rw[e]
  by_cases h1:i<a
  ·rw[if_neg (show ¬(a<=i/\i<=b) by omega),if_neg (show ¬b<i by omega),if_pos (show i<=a by omega),if_pos (show i+1<=a by omega),cntC_succ]
  ·by_cases h2:i<=b
   ·rw[if_pos (show a<=i/\i<=b from⟨by omega,h2⟩),if_neg (show ¬i+1<=a by omega),if_pos (show i+1<=b+1 by omega)]
    simp only[Option.isSome_none,Bool.false_eq_true,if_false,Nat.add_zero]
    by_cases h3:i<=a
    ·rw[if_pos h3,show i=a by omega]
    ·rw[if_neg h3,if_pos (by omega)]
   ·rw[if_neg (show ¬(a<=i/\i<=b) by omega),if_pos (show b<i by omega),if_neg (show ¬i<=a by omega),if_neg (show ¬i+1<=a by omega),if_neg (show ¬i+1<=b+1 by omega),show i+1-(b-a+1)=i-(b-a+1)+1 by omega,cntC_succ]
    congr 1
    by_cases h3:i=b+1
    ·rw[if_pos (by omega),show i-(b-a+1)=a by omega]
    ·rw[if_neg (by omega)]
theorem after_cnt:∀{cs:List Cut},(∀c∈cs,0<=c.a/\c.a<=c.b)->∀{i:Nat}{n:Int},afterC cs (i:Int)=some n->n=(cntC cs i:Nat)
 | [],_,i,n,h=>by
  cases h
  unfold cntC
  have:(List.range i).filter (fun j:Nat=>(afterC [] (j:Int)).isSome)=List.range i:=List.filter_eq_self.2 fun _ _=>rfl
  rw[this,List.length_range]
 | c::cs,hc,i,n,h=>by
  obtain⟨h1,h2⟩:=hc c List.mem_cons_self
  have e:=cntC_cons (c:=c) (cs:=cs) (a:=c.a.toNat) (b:=c.b.toNat) (by omega) (by omega) (by omega) i
  rw[afterC] at h
  split at h
  ·cases h
  ·rename_i h3
   have ih:=fun i n=>after_cnt (cs:=cs) (fun x hx=>hc x (List.mem_cons_of_mem _ hx)) (i:=i) (n:=n)
   by_cases h4:c.b<i
   ·rw[if_pos h4] at h
    have h5:(i:Int)-(c.b-c.a+1)=((i-(c.b.toNat-c.a.toNat+1):Nat):Int):=by omega
    rw[h5] at h
    rw[ih _ _ h,e,if_neg (by omega)]
    by_cases h6:i<=c.b.toNat+1
    ·rw[if_pos h6,show i-(c.b.toNat-c.a.toNat+1)=c.a.toNat by omega]
    ·rw[if_neg h6]
   ·rw[if_neg h4] at h
    rw[ih _ _ h,e,if_pos (by omega)]
theorem cuts_each:∀{l:List Cut}{n:Int},CutsOk n l->∀c∈l,0<=c.a/\c.a<=c.b
 | [],_,_,_,hc=>nomatch hc
 | d::l,n,h,c,hc=>by
  rcases List.mem_cons.1 hc with rfl|g
  ·exact⟨h.1,h.2.1⟩
  ·exact cuts_each h.2.2.2 c g
theorem cnt_all:∀{l:List Cut}{n:Nat},CutsOk n l->(cntC l n:Int)=(cutGo n l).1
 | [],n,_=>by
  unfold cntC
  have:(List.range n).filter (fun j:Nat=>(afterC [] (j:Int)).isSome)=List.range n:=List.filter_eq_self.2 fun _ _=>rfl
  rw[this,List.length_range];rfl
 | c::l,n,h=>by
  obtain⟨h1,h2,h3,h4⟩:=h
  have e:=cntC_cons (c:=c) (cs:=l) (a:=c.a.toNat) (b:=c.b.toNat) (by omega) (by omega) (by omega) n
  have hk:(n:Int)-(c.b-c.a+1)=((n-(c.b.toNat-c.a.toNat+1):Nat):Int):=by omega
  rw[hk] at h4
  have hg:cutGo (n:Int) (c::l)=cutGo ((n:Int)-(c.b-c.a+1)) l:=by rw[cutGo,if_neg (by omega),if_neg (by omega)]
  rw[hg,hk,<-cnt_all h4,e,if_neg (by omega)]
  by_cases h6:n<=c.b.toNat+1
  ·rw[if_pos h6,show n-(c.b.toNat-c.a.toNat+1)=c.a.toNat by omega]
  ·rw[if_neg h6]
end Go.Dw
/- SJ: subtitles with no program in sight: what is wrong; as they stand after cuts. -/
namespace Go.Dw
open Go Go.Dx Go.Proofs
structure Ttl where
 a:Int
 b:Int
 text:List UInt8
def TtlR (_:Heap)(row:List Value)(x:Ttl):Prop:=row=[i64 x.a,i64 x.b,str x.text]
structure Ttl.Fit (x:Ttl):Prop where
 a:I64 x.a
 b:I64 x.b
 text:Len x.text
def textB (s:List UInt8):Bool:=decide (1<=s.length/\s.length<=80) && !decide (s.head?=some 32) && !decide (s.getLast?=some 32) && s.all fun c=>decide (32<=c.toNat/\c.toNat<=126)
def titlesGo:Int->List Ttl->Int
 | _,[]=>0
 | bef,x::xs=>if (x.a<0\/199999<x.a)\/(x.b<0\/199999<x.b) then 7 else if x.b<x.a\/x.a<=bef then 2 else if textB x.text=false then 6 else titlesGo x.b xs
def titlesErr (l:List Ttl):Int:=if 40<l.length then 3 else titlesGo (-1) l
theorem titlesGo_ok:∀{l:List Ttl}{bef:Int},titlesGo bef l=0->(∀x∈l,bef<x.a/\0<=x.a/\x.a<=x.b/\x.b<=199999/\textB x.text=true)/\l.Pairwise fun x y=>x.b<y.a
 | [],_,_=>⟨(fun _ h=>nomatch h),.nil⟩
 | x::xs,bef,h=>by
  rw[titlesGo] at h
  split at h
  ·cases h
  rename_i h1
  split at h
  ·cases h
  rename_i h2
  split at h
  ·cases h
  rename_i h3
  obtain⟨i1,i2⟩:=titlesGo_ok h
  refine⟨fun y hy=>?_,List.pairwise_cons.2 ⟨fun y hy=>(i1 y hy).1,i2⟩⟩
  rcases List.mem_cons.1 hy with rfl|g
  ·exact⟨by omega,by omega,by omega,by omega,by simpa using h3⟩
  ·have:=i1 y g
   exact⟨by omega,this.2⟩
def leftF (cs:List Cut)(a n:Nat):List Int:=(List.range' a n).filterMap fun j:Nat=>afterC cs (j:Int)
theorem cntC_mono (cs:List Cut){i j:Nat}(h:i<=j):cntC cs i<=cntC cs j:=by
 induction h with
 | refl=>exact Nat.le_refl _
 | step _ ih=>rw[cntC_succ];omega
def retime1 (cs:List Cut)(x:Ttl):Option Ttl :=
 if cntC cs x.a.toNat<cntC cs (x.b.toNat+1) then some ⟨(cntC cs x.a.toNat:Nat),(cntC cs (x.b.toNat+1):Nat)-1,x.text⟩ else none
def retimeS (cs:List Cut)(l:List Ttl):List Ttl:=l.filterMap (retime1 cs)
def onT (x:Ttl)(i:Int):Bool:=decide (x.a<=i/\i<=x.b)
theorem retime_on {cs:List Cut}(hc:∀c∈cs,0<=c.a/\c.a<=c.b){x:Ttl}(hx:0<=x.a/\x.a<=x.b){i:Nat}{n:Int}(hn:afterC cs (i:Int)=some n) :
  (onT x i=true->∃y,retime1 cs x=some y/\onT y n=true)/\(∀y,retime1 cs x=some y->onT y n=true->onT x i=true):=by
 have h1:=after_cnt hc hn
 have h2:=cntC_succ cs i
 rw[hn] at h2
 simp only[Option.isSome_some,if_true] at h2
 constructor
 ·intro h
  have h:=of_decide_eq_true h
  have m1:=cntC_mono cs (show x.a.toNat<=i by omega)
  have m2:=cntC_mono cs (show i+1<=x.b.toNat+1 by omega)
  refine⟨⟨(cntC cs x.a.toNat:Nat),(cntC cs (x.b.toNat+1):Nat)-1,x.text⟩,if_pos (by omega),decide_eq_true ?_⟩
  show ((cntC cs x.a.toNat:Nat):Int)<=n/\n<=((cntC cs (x.b.toNat+1):Nat):Int)-1
  omega
 ·intro y hy h
  unfold retime1 at hy
  split at hy
  ·cases hy
   have h:=of_decide_eq_true h
   simp only at h
   refine decide_eq_true ⟨Classical.byContradiction fun hl=>?_,Classical.byContradiction fun hl=>?_⟩
   ·have:=cntC_mono cs (show i+1<=x.a.toNat by omega)
    omega
   ·have:=cntC_mono cs (show x.b.toNat+1<=i by omega)
    omega
  ·cases hy
def saidS (l:List Ttl)(i:Int):List UInt8:=match l.find? fun x=>onT x i with|some x=>x.text|none=>[]
end Go.Dw
/- SD: chapter 11 with no program in sight: what is right with a task; how long shows take. -/
namespace Go.Dw
open Go Go.Dx Go.Proofs
theorem goNm_e {α:Type}{nm:α->List UInt8}{wrong:α->Int}:∀{l:List α}{i:Nat}{b:List (List UInt8)}{x:Nat×Int},goNm nm wrong i b l=some x->x.2≠0
 | [],_,_,_,h=>nomatch h
 | a::l,i,b,x,h=>by
  rw[goNm] at h
  split at h
  ·rename_i h1;cases h;exact h1
  ·split at h
   ·rename_i h1;cases h;exact h1
   ·exact goNm_e h
theorem goNm_none {α:Type}{nm:α->List UInt8}{wrong:α->Int}:∀{l:List α}{i:Nat}{b:List (List UInt8)},goNm nm wrong i b l=none->∀x∈l,wrong x=0
 | [],_,_,_,_,hx=>nomatch hx
 | a::l,i,b,h,x,hx=>by
  rw[goNm] at h
  split at h
  ·cases h
  ·split at h
   ·cases h
   ·rename_i h1
    rcases List.mem_cons.1 hx with rfl|g
    ·exact Classical.not_not.1 h1
    ·exact goNm_none h x g
theorem goEa_e {α:Type}{wrong:α->Int}:∀{l:List α}{i:Nat}{x:Nat×Int},goEa wrong i l=some x->x.2≠0
 | [],_,_,h=>nomatch h
 | a::l,i,x,h=>by
  rw[goEa] at h
  split at h
  ·rename_i h1;cases h;exact h1
  ·exact goEa_e h
theorem goEa_none {α:Type}{wrong:α->Int}:∀{l:List α}{i:Nat},goEa wrong i l=none->∀x∈l,wrong x=0
 | [],_,_,_,hx=>nomatch hx
 | a::l,i,h,x,hx=>by
  rw[goEa] at h
  split at h
  ·cases h
  ·rename_i h1
   rcases List.mem_cons.1 hx with rfl|g
   ·exact Classical.not_not.1 h1
   ·exact goEa_none h x g
theorem orE_zero {part:Int}{o:Option (Nat×Int)}{x:Int×Int×Int}(ho:∀y,o=some y->y.2≠0)(h:(orE part o x).2.2=0):o=none/\x.2.2=0:=by
 cases o with
 | none=>exact⟨rfl,h⟩
 | some y=>exact absurd h (ho y rfl)
structure ScOk (t:ScT):Prop where
 first:0<=t.first/\t.first<=80000
 lands:1<=t.lands.length/\t.lands.length<=8
 venues1:1<=t.venues.length/\t.venues.length<=8
 rights1:t.rights.length<=30
 prints1:t.prints.length<=12
 packs1:t.packs.length<=12
 keys1:t.keys.length<=30
 loans1:t.loans.length<=30
 travel:travelErr t=0
 venues:∀v∈t.venues,venueErr t v=0
 rights:∀r∈t.rights,rightErr t r=0
 prints:∀p∈t.prints,printErr t p=0
 packs:∀p∈t.packs,packErr p=0
 keys:∀k∈t.keys,keyErr t k=0
 loans:∀l∈t.loans,loanErr t l=0
theorem sc_ok {t:ScT}(h:errSc t=0):ScOk t:=by
 unfold errSc checkSc at h
 split at h
 ·cases h
 rename_i h1
 split at h
 ·cases h
 rename_i h2
 obtain⟨_,h⟩:=orE_zero (fun _=>goNm_e) h
 split at h
 ·rename_i h3;exact absurd h h3
 rename_i h3
 obtain⟨a3,h⟩:=orE_zero (fun _=>goNm_e) h
 obtain⟨a4,h⟩:=orE_zero (fun _=>goEa_e) h
 obtain⟨a5,h⟩:=orE_zero (fun _=>goNm_e) h
 obtain⟨a6,h⟩:=orE_zero (fun _=>goNm_e) h
 obtain⟨a7,h⟩:=orE_zero (fun _=>goEa_e) h
 obtain⟨a8,h⟩:=orE_zero (fun _=>goEa_e) h
 exact⟨by omega,by omega,by omega,by omega,by omega,by omega,by omega,by omega,Classical.not_not.1 h3,goNm_none a3,goEa_none a4,goNm_none a5,goNm_none a6,goEa_none a7,goEa_none a8⟩
theorem venue_ok {t:ScT}{v:ScV}(h:venueErr t v=0):(0<=v.land/\v.land<t.lands.length)/\(0<=v.proj/\v.proj<=2)/\(0<=v.change/\v.change<=60)/\(0<=v.turn/\v.turn<=60)/\(1<=v.spool/\v.spool<=200000)/\oddS v.speeds 1 60=0:=by
 unfold venueErr at h
 split at h
 ·cases h
 rename_i ha
 unfold abroad at ha
 split at h
 ·cases h
 exact⟨by omega,by omega,by omega,by omega,by omega,h⟩
theorem print_ok {t:ScT}{p:ScP}(h:printErr t p=0):(1<=p.reels.length/\p.reels.length<=12)/\(∀n∈p.reels,1<=n/\n<=200000)/\oddS p.speeds 1 60=0/\(0<=p.land/\p.land<t.lands.length):=by
 unfold printErr at h
 split at h
 ·cases h
 split at h
 ·cases h
 split at h
 ·cases h
 rename_i h3
 split at h
 ·rename_i h4;exact absurd h h4
 rename_i h4
 split at h
 ·cases h
 rename_i ha
 unfold abroad at ha
 refine⟨by omega,fun n hn=>?_,Classical.not_not.1 h4,by omega⟩
 have h5:(p.reels.any fun n=>decide (n<1\/200000<n))=false:=by
  cases hq:p.reels.any fun n=>decide (n<1\/200000<n)
  ·rfl
  ·exact absurd hq h3
 rw[List.any_eq_false] at h5
 have:=h5 n hn
 simp only[decide_eq_true_eq] at this
 omega
theorem pack_ok {p:ScPk}(h:packErr p=0):(1<=p.frames/\p.frames<=2400000)/\(1<=p.speed/\p.speed<=60):=by
 unfold packErr at h
 split at h
 ·cases h
 split at h
 ·cases h
 omega
theorem shown_ok {t:ScT}{s:ScS}(h:shownErr t s=0):(0<=s.venue/\s.venue<t.venues.length)/\((0<=s.print/\s.print<t.prints.length/\s.pack = -1)\/(0<=s.pack/\s.pack<t.packs.length/\s.print = -1))/\(0<=s.minute/\s.minute<=57600)/\(1<=s.speed/\s.speed<=60)/\(0<=s.worth/\s.worth<=1000000):=by
 unfold shownErr at h
 split at h
 ·cases h
 split at h
 ·cases h
 rename_i h2
 split at h
 ·cases h
 split at h
 ·cases h
 refine⟨by omega,?_,by omega,by omega,by omega⟩
 by_cases c:s.print = -1
 ·by_cases d:s.pack = -1
  ·exact absurd ⟨fun _=>d,fun _=>c⟩ h2
  ·exact .inr ⟨by omega,by omega,c⟩
 ·by_cases d:s.pack = -1
  ·exact .inl ⟨by omega,by omega,d⟩
  ·exact absurd ⟨fun e=>absurd e c,fun e=>absurd e d⟩ h2
theorem getD_mem {α:Type}{l:List α}{n:Int}{d:α}(h0:0<=n)(h1:n<l.length):l.getD n.toNat d∈l:=by
 have h:n.toNat<l.length:=by omega
 rw[List.getD_eq_getElem?_getD,List.getElem?_eq_getElem h]
 exact List.getElem_mem h
theorem ven_ok {t:ScT}(hO:ScOk t){s:ScS}(h:shownErr t s=0):venueErr t (venAt t s)=0:=hO.venues _ (getD_mem (shown_ok h).1.1 (shown_ok h).1.2)
theorem pr_ok {t:ScT}(hO:ScOk t){s:ScS}(h:shownErr t s=0)(hp:s.pack = -1):printErr t (prAt t s)=0:=by
 rcases (shown_ok h).2.1 with ⟨h1,h2,_⟩|⟨h1,_,_⟩
 ·exact hO.prints _ (getD_mem h1 h2)
 ·omega
theorem pk_ok {t:ScT}(hO:ScOk t){s:ScS}(h:shownErr t s=0)(hp:0<=s.pack):packErr (pkAt t s)=0:=by
 rcases (shown_ok h).2.1 with ⟨_,_,h1⟩|⟨h1,h2,_⟩
 ·omega
 ·exact hO.packs _ (getD_mem h1 h2)
theorem secs_rng {l:List Int}{speed:Int}(hs:1<=speed)(hl:∀n∈l,1<=n/\n<=200000):(l.length:Int)<=secsS l speed/\secsS l speed<=200000*l.length:=by
 unfold secsS
 induction l with
 | nil=>exact⟨Int.le_refl _,Int.le_refl _⟩
 | cons a l ih =>
  have h1:=ih fun n hn=>hl n (List.mem_cons_of_mem _ hn)
  have h2:=hl a List.mem_cons_self
  have h3:=upS_pos h2.1 hs
  have h4:=upS_le h2.1 hs
  simp only[List.map_cons,List.sum_cons,List.length_cons]
  omega
theorem upS_mul {a b:Int}(hb:1<=b):a<=b*upS a b:=by
 unfold upS
 have h1:=Int.emod_add_mul_ediv (a+b-1) b
 have h2:=Int.emod_lt_of_pos (a+b-1) (show 0<b by omega)
 omega
theorem long_rng {t:ScT}(hO:ScOk t){s:ScS}(h:shownErr t s=0):1<=longS t s/\longS t s<=100000:=by
 obtain⟨_,hpp,_,hsp,_⟩:=shown_ok h
 obtain⟨_,_,hch,_⟩:=venue_ok (ven_ok hO h)
 unfold longS
 split
 ·rename_i hp
  obtain⟨h1,_⟩:=pack_ok (pk_ok hO h hp)
  have h2:=upS_pos h1.1 hsp.1
  have h3:=upS_le h1.1 hsp.1
  have h4:=upS_pos h2 (show (1:Int)<=60 by decide)
  refine⟨h4,?_⟩
  rw[upS_eq (by decide)]
  omega
 ·rename_i hp
  have hp':s.pack = -1:=by omega
  obtain⟨h1,h2,_⟩:=print_ok (pr_ok hO h hp')
  have h3:=secs_rng hsp.1 h2
  have h4:=upS_pos (show 1<=secsS (prAt t s).reels s.speed by omega) (show (1:Int)<=60 by decide)
  have h5:upS (secsS (prAt t s).reels s.speed) 60<=40000:=by rw[upS_eq (by decide)];omega
  have h6:0<=(venAt t s).change*(((prAt t s).reels.length:Int)-1):=Int.mul_nonneg hch.1 (by omega)
  have h7:(venAt t s).change*(((prAt t s).reels.length:Int)-1)<=60*11:=Int.mul_le_mul hch.2 (by omega) (by omega) (by decide)
  split <;> omega
end Go.Dw
/- SK: cuts and back; what cannot be read; with no program in sight. -/
namespace Go.Dw
open Go Go.Dx Go.Proofs
def beforeC:List Cut->Int->Int
 | [],n=>n
 | c::cs,n=>if c.a<=beforeC cs n then beforeC cs n+(c.b-c.a+1) else beforeC cs n
theorem after_before:∀{cs:List Cut}{n:Int},(∀c∈cs,0<=c.a/\c.a<=c.b)->afterC cs (beforeC cs n)=some n
 | [],_,_=>rfl
 | c::cs,n,hc=>by
  have h1:=hc c List.mem_cons_self
  have ih:=after_before (n:=n) fun x hx=>hc x (List.mem_cons_of_mem _ hx)
  rw[beforeC]
  by_cases h3:c.a<=beforeC cs n
  ·rw[if_pos h3,afterC,if_neg (by omega),if_pos (by omega)]
   rw[show beforeC cs n+(c.b-c.a+1)-(c.b-c.a+1)=beforeC cs n by omega]
   exact ih
  ·rw[if_neg h3,afterC,if_neg (by omega),if_neg (by omega)]
   exact ih
theorem retime_in {cs:List Cut}(hc:∀c∈cs,0<=c.a/\c.a<=c.b){x y:Ttl}(hx:0<=x.a/\x.a<=x.b)(hy:retime1 cs x=some y):y.text=x.text/\0<=y.a/\y.a<=y.b/\∀n,y.a<=n->n<=y.b->0<=beforeC cs n->x.a<=beforeC cs n/\beforeC cs n<=x.b:=by
 have hy0:=hy
 unfold retime1 at hy
 split at hy
 ·rename_i h
  cases hy
  refine⟨rfl,Int.natCast_nonneg _,by show ((cntC cs x.a.toNat:Nat):Int)<=((cntC cs (x.b.toNat+1):Nat):Int)-1;omega,fun n h1 h2 h0=>?_⟩
  have ha:=after_before (n:=n) hc
  obtain⟨k,hk⟩:∃k:Nat,beforeC cs n=k:=⟨(beforeC cs n).toNat,by omega⟩
  rw[hk] at ha ⊢
  have:=(retime_on hc hx ha).2 _ hy0 (decide_eq_true ⟨h1,h2⟩)
  exact of_decide_eq_true this
 ·cases hy
def unreadB (speed rate:Int)(x:Ttl):Bool:=decide (rate*(x.b-x.a+1)<(x.text.length:Int)*speed)
def unreadS (l:List Ttl)(speed rate:Int):List Nat:=(List.range l.length).filter fun i=>match l[i]? with|some x=>unreadB speed rate x|none=>false
theorem secs_one (n speed:Int):secsS [n] speed=upS n speed:=by unfold secsS;simp
theorem over_by {n left speed:Int}(h0:0<=n)(h1:n<left)(hs:1<=speed):(n+speed) / speed<=60*upS (upS left speed) 60:=by
 have e:(n+speed) / speed=upS (n+1) speed:=by unfold upS;congr 1;omega
 rw[e]
 have h2:=upS_mono hs (show n+1<=left by omega)
 have h3:=upS_mul (a:=upS left speed) (show (1:Int)<=60 by decide)
 omega
end Go.Dw
/- SE: chapter 11 with no program in sight: laws of ScreenTimes, ScreenLent. -/
namespace Go.Dw
open Go Go.Dx Go.Proofs
def namesSc:List (List UInt8)->List (List UInt8)->Prop
 | _,[]=>True
 | b,s::l=>nameErr s b=0/\namesSc (b++[s]) l
def twoV (v:ScV):ScV:=⟨v.name,v.land,2,v.speeds,v.change,v.spool,v.turn,v.digital⟩
def twoT (t:ScT)(k:Nat):ScT:=⟨t.first,t.lands,t.travel,t.venues.set k (twoV (t.venues.getD k noV)),t.rights,t.prints,t.packs,t.keys,t.loans⟩
def ofP (G:List ScL)(p:Int):List ScL:=G.filter fun g=>decide (g.print=p)
def Chains (t:ScT)(G:List ScL):Prop:=∀p,ofP G p≠[]->∃S,S.Perm (ofP G p)/\S.Pairwise loLe/\canG t (homeG t p) S=true
def stepG (t:ScT)(s:List ScL×List Int)(x:ScL):List ScL×List Int:=if grantS t s.1 x=true then (s.1++[x],s.2++[0]) else (s.1,s.2++[210])
structure Grants (t:ScT)(l:List ScL)(s:List ScL×List Int):Prop where
 len:s.2.length=l.length
 chains:Chains t s.1
 sub:s.1=((l.zip s.2).filter fun p=>decide (p.2=0)).map Prod.fst
 vals:∀e∈s.2,e=0\/e=210
end Go.Dw
/- SO: the one reel of a print, cut; with no program in sight. -/
namespace Go.Dw
open Go Go.Dx Go.Proofs
def cutP (p:ScP)(n:Int):ScP:=⟨p.name,p.work,p.version,[n],p.speeds,p.land⟩
def oneT (t:ScT)(k:Nat)(n:Int):ScT:=⟨t.first,t.lands,t.travel,t.venues,t.rights,t.prints.set k (cutP (t.prints.getD k noP) n),t.packs,t.keys,t.loans⟩
theorem oneT_len (t:ScT)(k:Nat)(n:Int):(oneT t k n).prints.length=t.prints.length:=List.length_set
theorem goNm_map {α:Type}{nm:α->List UInt8}{wrong:α->Int}:∀{l:List α}{i:Nat}{b:List (List UInt8)},goNm nm wrong i b l=goNm Prod.fst Prod.snd i b (l.map fun x=>(nm x,wrong x))
 | [],_,_=>rfl
 | x::l,i,b=>by rw[List.map_cons,goNm,goNm,goNm_map]
theorem print_any {n:Int}(h:1<=n/\n<=200000):([n].any fun n=>decide (n<1\/200000<n))=false:=by
 rw[List.any_cons,decide_eq_false (by omega)];rfl
theorem printErr_one {t:ScT}{p:ScP}{n m:Int}(hn:1<=n/\n<=200000)(hm:1<=m/\m<=200000):printErr t (cutP p n)=printErr t (cutP p m):=by
 unfold printErr
 show (if _ then _ else if _ then _ else if ([n].any fun n=>decide (n<1\/200000<n))=true then _ else _)=(if _ then _ else if _ then _ else if ([m].any fun n=>decide (n<1\/200000<n))=true then _ else _)
 rw[print_any hn,print_any hm]
 rfl
theorem one_err {t:ScT}{k:Nat}{n m:Int}(hn:1<=n/\n<=200000)(hm:1<=m/\m<=200000):errSc (oneT t k n)=errSc (oneT t k m):=by
 have e1:goNm ScP.name (printErr (oneT t k n)) 0 [] (oneT t k n).prints=goNm ScP.name (printErr (oneT t k m)) 0 [] (oneT t k m).prints:=by
  rw[goNm_map,goNm_map (wrong:=printErr (oneT t k m))]
  congr 1
  show (t.prints.set k (cutP (t.prints.getD k noP) n)).map (fun x=>(x.name,printErr t x))=(t.prints.set k (cutP (t.prints.getD k noP) m)).map (fun x=>(x.name,printErr t x))
  rw[List.map_set,List.map_set,printErr_one hn hm]
  rfl
 have e2:(oneT t k n).prints.length=(oneT t k m).prints.length:=(oneT_len t k n).trans (oneT_len t k m).symm
 have e3:loanErr (oneT t k n)=loanErr (oneT t k m):=by
  funext l
  unfold loanErr
  rw[e2]
  rfl
 have key:checkSc (oneT t k n)=checkSc (oneT t k m):=by
  unfold checkSc
  rw[e1,e2,e3]
  rfl
 unfold errSc
 rw[key]
theorem one_shown {t:ScT}{k:Nat}{n:Int}{s:ScS}:shownErr (oneT t k n) s=shownErr t s:=by
 unfold shownErr
 rw[oneT_len]
 rfl
theorem one_zero {t:ScT}{k:Nat}(hk:k<t.prints.length):errSc (oneT t k 0)≠0:=by
 intro h
 have h1:=(sc_ok h).prints (cutP (t.prints.getD k noP) 0) (List.mem_iff_getElem.2 ⟨k,by rw[oneT_len];exact hk,List.getElem_set_self _⟩)
 have h2:=(print_ok h1).2.1
 have:=h2 0 (List.mem_singleton.2 rfl)
 omega
theorem one_long {t:ScT}{n:Int}{s:ScS}(h:shownErr t s=0)(h0:0<=s.print):longS (oneT t s.print.toNat n) s=upS (upS n s.speed) 60:=by
 obtain⟨hv,hpp,-⟩:=shown_ok h
 rcases hpp with ⟨p0,p1,pk⟩|⟨k0,k1,pr⟩
 rotate_left
 ·omega
 have ep:prAt (oneT t s.print.toNat n) s=cutP (prAt t s) n:=by
  show (t.prints.set s.print.toNat _).getD s.print.toNat noP=_
  rw[List.getD_eq_getElem?_getD,List.getElem?_set_self (by omega)]
  rfl
 unfold longS
 rw[if_neg (show ¬0<=s.pack by omega),ep]
 have e:secsS (cutP (prAt t s) n).reels s.speed=upS n s.speed:=secs_one _ _
 rw[e]
 show (if _ then upS (upS n s.speed) 60+_*(((1:Nat):Int)-1) else _)=_
 split
 ·rw[show (((1:Nat):Int)-1)=0 by decide,Int.mul_zero,Int.add_zero]
 ·rfl
theorem oneT_fit {t:ScT}(hT:t.Fit)(k:Nat){n:Int}(hn:I64 n):(oneT t k n).Fit:=by
 obtain⟨q1,q2,q3,q4,q5,q6,q7,q8,q9,q10,q11,q12,q13,q14,q15,q16,q17⟩:=hT
 refine⟨q1,q2,q3,q4,q5,q6,q7,q8,q9,?_,?_,q12,q13,q14,q15,q16,q17⟩
 ·show (t.prints.set k _).length<_
  rw[List.length_set];exact q10
 ·intro p hp
  rcases List.mem_or_eq_of_mem_set hp with g|rfl
  ·exact q11 p g
  ·have hf:(t.prints.getD k noP).Fit:=by
    rw[List.getD_eq_getElem?_getD]
    by_cases hk:k<t.prints.length
    ·rw[List.getElem?_eq_getElem hk];exact q11 _ (List.getElem_mem hk)
    ·rw[List.getElem?_eq_none (by omega)]
     exact⟨by decide,by decide,by decide,by decide,(fun _ h=>nomatch h),⟨by decide,by decide⟩,by decide⟩
   obtain⟨p1,p2,p3,p4,p5,p6,p7⟩:=hf
   exact⟨p1,p2,p3,(by show 1<_;decide),fun x hx=>by rw[List.mem_singleton.1 hx];exact hn,p6,p7⟩
theorem retime_left {cs:List Cut}{x y:Ttl}{n:Nat}(hx:0<=x.a/\x.a<=x.b)(hb:x.b<n)(h:retime1 cs x=some y):0<=y.a/\y.a<=y.b/\y.b<(cntC cs n:Nat):=by
 unfold retime1 at h
 split at h
 ·rename_i h1
  cases h
  have:=cntC_mono cs (show x.b.toNat+1<=n by omega)
  show 0<=((cntC cs x.a.toNat:Nat):Int)/\((cntC cs x.a.toNat:Nat):Int)<=((cntC cs (x.b.toNat+1):Nat):Int)-1/\((cntC cs (x.b.toNat+1):Nat):Int)-1<((cntC cs n:Nat):Int)
  omega
 ·cases h
theorem retime_next {cs:List Cut}:∀{l:List Ttl}{y:Ttl}{rest:List Ttl},retimeS cs l=y::rest->∃j,∃hj:j<l.length,retime1 cs l[j]=some y/\rest=retimeS cs (l.drop (j+1))
 | [],_,_,h=>by cases h
 | x::l,y,rest,h=>by
  unfold retimeS at h
  rw[List.filterMap_cons] at h
  split at h
  ·rename_i h1
   obtain⟨j,hj,h2,h3⟩:=retime_next (l:=l) h
   exact⟨j+1,by rw[List.length_cons];omega,h2,h3⟩
  ·rename_i z h1
   cases h
   exact⟨0,by rw[List.length_cons];omega,h1,rfl⟩
end Go.Dw
/- SN: chapter 11 with no program in sight: loans as the reference looks at them: the first way, the last way, and each between. -/
namespace Go.Dw
open Go Go.Dx Go.Proofs
def vlG (t:ScT)(y:ScL):Int:=venLand t y.venue
def badP (t:ScT)(a b:ScL):Prop:=trv t (vlG t a) (vlG t b)<0\/b.days.lo-a.days.hi<=trv t (vlG t a) (vlG t b)
instance (t:ScT)(a b:ScL):Decidable (badP t a b):=inferInstanceAs (Decidable (_\/_))
def chainG (t:ScT):ScL->List ScL->Bool
 | _,[]=>true
 | a,b::l=>!decide (badP t a b) && chainG t b l
def lastG:ScL->List ScL->ScL
 | a,[]=>a
 | _,b::l=>lastG b l
def awayG (t:ScT)(home:Int)(L:List ScL):Prop:=∃h:0<L.length,(trv t home (vlG t L[0])<0\/trv t (vlG t (L[L.length-1]'(by omega))) home<0)\/∃j,∃hj:j+1<L.length,badP t (L[j]'(by omega)) L[j+1]
def ofGk (granted:List ScL)(x:ScL)(k:Nat):List ScL:=ofG (granted.take k) x
end Go.Dw
/- SR: reading a task of chapter 11. -/
namespace Go.Dw
open Go Go.Dx Go.Proofs
set_option maxRecDepth 100000
section
variable {H:Type}{enc:TypeId×Value->H}{W:World}{cs:List Value}
theorem rd_sp (h:Rd enc Tryz.prog W 49 cs):∃s:Sp,cs=[i64 s.lo,i64 s.hi]/\I64 s.lo/\I64 s.hi:=by
 have cS:Tryz.prog.cellsOf 49=2:=by kernel_rfl
 have c3:Tryz.prog.cellsOf 3=1:=by kernel_rfl
 obtain⟨h1,h2⟩:=rd_struct Tryz.underlying49 h
 rw[cS] at h1
 obtain⟨x0,x1,rfl⟩:∃x0 x1,cs=[x0,x1]:=by
  match cs,h1 with
  | [x0,x1],_=>exact⟨x0,x1,rfl⟩
 have f0:Rd enc Tryz.prog W 3 (([x0,x1].drop 0).take (Tryz.prog.cellsOf 3)):=h2 0 _ rfl
 have f1:Rd enc Tryz.prog W 3 (([x0,x1].drop 1).take (Tryz.prog.cellsOf 3)):=h2 1 _ rfl
 rw[c3] at f0 f1
 obtain⟨n0,e0,l0⟩:=rd_int Tryz.underlying3 f0
 obtain⟨n1,e1,l1⟩:=rd_int Tryz.underlying3 f1
 simp at e0 e1
 subst e0;subst e1
 exact⟨⟨n0,n1⟩,rfl,l0,l1⟩
theorem rd_strs (h:Rd enc Tryz.prog W 22 cs):∃v a l cap,cs=[v]/\okv W.heap.size v=true/\nz v=.slice a l.length cap/\StrsAt (ro W) a l/\Len l/\∀s∈l,Len s :=
 rd_list (encA:=str) (Fit:=fun s:List UInt8=>Len s) Tryz.underlying22 (by kernel_rfl) (fun row hr=>by
  obtain⟨n,h1,h2⟩:=rd_string Tryz.underlying9 hr
  exact⟨n,_,h1,rfl,rfl,h2⟩) h
theorem rd_strsP (h:Rd enc Tryz.prog W 22 cs):∃v a l cap,cs=[v]/\okv W.heap.size v=true/\nz v=.slice a l.length cap/\ParL str (ro W) a l cap/\Len l/\∀s∈l,Len s:=by
 obtain⟨v,a,l,cap,h1,h2,h3,h4,h5,h6⟩:=rd_strs h
 obtain⟨v',a',len',cap',g1,g2,g3⟩:=rd_sliceC Tryz.underlying22 h
 have c9:Tryz.prog.cellsOf 9=1:=by kernel_rfl
 obtain⟨v2,a2,len2,cap2,k1,_,k3,_,k5⟩:=rd_slice Tryz.underlying22 (by omega) h
 rw[h1] at g1 k1
 simp only[List.cons.injEq,and_true] at g1 k1
 subst g1;subst k1
 rw[h3] at g2 k3
 simp only[Value.slice.injEq] at g2 k3
 obtain⟨rfl,rfl,rfl⟩:=g2
 obtain⟨rfl,rfl,rfl⟩:=k3
 refine⟨v,a,l,cap,h1,h2,h3,⟨h4,g3,fun hn=>?_⟩,h5,h6⟩
 obtain⟨b,o,ha,_⟩:=k5 0 (List.length_pos_iff.2 hn)
 exact⟨b,o,ha⟩
theorem rd_line (h:Rd enc Tryz.prog W 52 cs):∃l:List Int,cs.all (okv W.heap.size)=true/\ScTvR (ro W) (cs.map nz) l/\(Len l/\∀n∈l,I64 n):=by
 obtain⟨v,a,l,cap,e,ok,hz,hI,hL,hF⟩:=rd_ints Tryz.underlying52 Tryz.underlying3 (by kernel_rfl) h
 subst e
 exact⟨l,by simp[ok],⟨a,cap,by simp only[List.map_cons,List.map_nil,hz],hI⟩,hL,hF⟩
theorem rd_venue (h:Rd enc Tryz.prog W 54 cs):∃v:ScV,cs.all (okv W.heap.size)=true/\ScVR (ro W) (cs.map nz) v/\v.Fit:=by
 have cS:Tryz.prog.cellsOf 54=9:=by kernel_rfl
 obtain⟨h1,h2⟩:=rd_struct Tryz.underlying54 h
 rw[cS] at h1
 obtain⟨x0,x1,x2,x3,x4,x5,x6,x7,x8,rfl⟩:∃x0 x1 x2 x3 x4 x5 x6 x7 x8,cs=[x0,x1,x2,x3,x4,x5,x6,x7,x8]:=by
  match cs,h1 with
  | [x0,x1,x2,x3,x4,x5,x6,x7,x8],_=>exact⟨x0,x1,x2,x3,x4,x5,x6,x7,x8,rfl⟩
 have c0:Tryz.prog.cellsOf 9=1:=by kernel_rfl
 have f0:Rd enc Tryz.prog W 9 (([x0,x1,x2,x3,x4,x5,x6,x7,x8].drop 0).take (Tryz.prog.cellsOf 9)):=h2 0 _ rfl
 rw[c0] at f0
 obtain⟨n0,e0,l0⟩:=rd_string Tryz.underlying9 f0
 have c1:Tryz.prog.cellsOf 3=1:=by kernel_rfl
 have f1:Rd enc Tryz.prog W 3 (([x0,x1,x2,x3,x4,x5,x6,x7,x8].drop 1).take (Tryz.prog.cellsOf 3)):=h2 1 _ rfl
 rw[c1] at f1
 obtain⟨n1,e1,l1⟩:=rd_int Tryz.underlying3 f1
 have c2:Tryz.prog.cellsOf 3=1:=by kernel_rfl
 have f2:Rd enc Tryz.prog W 3 (([x0,x1,x2,x3,x4,x5,x6,x7,x8].drop 2).take (Tryz.prog.cellsOf 3)):=h2 2 _ rfl
 rw[c2] at f2
 obtain⟨n2,e2,l2⟩:=rd_int Tryz.underlying3 f2
 have c3:Tryz.prog.cellsOf 49=2:=by kernel_rfl
 have f3:Rd enc Tryz.prog W 49 (([x0,x1,x2,x3,x4,x5,x6,x7,x8].drop 3).take (Tryz.prog.cellsOf 49)):=h2 3 _ rfl
 rw[c3] at f3
 obtain⟨n3,e3,l3,m3⟩:=rd_sp f3
 have c4:Tryz.prog.cellsOf 3=1:=by kernel_rfl
 have f4:Rd enc Tryz.prog W 3 (([x0,x1,x2,x3,x4,x5,x6,x7,x8].drop 5).take (Tryz.prog.cellsOf 3)):=h2 4 _ rfl
 rw[c4] at f4
 obtain⟨n4,e4,l4⟩:=rd_int Tryz.underlying3 f4
 have c5:Tryz.prog.cellsOf 3=1:=by kernel_rfl
 have f5:Rd enc Tryz.prog W 3 (([x0,x1,x2,x3,x4,x5,x6,x7,x8].drop 6).take (Tryz.prog.cellsOf 3)):=h2 5 _ rfl
 rw[c5] at f5
 obtain⟨n5,e5,l5⟩:=rd_int Tryz.underlying3 f5
 have c6:Tryz.prog.cellsOf 3=1:=by kernel_rfl
 have f6:Rd enc Tryz.prog W 3 (([x0,x1,x2,x3,x4,x5,x6,x7,x8].drop 7).take (Tryz.prog.cellsOf 3)):=h2 6 _ rfl
 rw[c6] at f6
 obtain⟨n6,e6,l6⟩:=rd_int Tryz.underlying3 f6
 have c7:Tryz.prog.cellsOf 4=1:=by kernel_rfl
 have f7:Rd enc Tryz.prog W 4 (([x0,x1,x2,x3,x4,x5,x6,x7,x8].drop 8).take (Tryz.prog.cellsOf 4)):=h2 7 _ rfl
 rw[c7] at f7
 obtain⟨n7,e7⟩:=rd_bool Tryz.underlying4 f7
 simp at e0 e1 e2 e3 e4 e5 e6 e7
 subst e0
 subst e1
 subst e2
 obtain⟨rfl,rfl⟩:=e3
 subst e4
 subst e5
 subst e6
 subst e7
 refine⟨⟨n0,n1,n2,n3,n4,n5,n6,n7⟩,rfl,rfl,⟨l0,l1,l2,⟨l3,m3⟩,l4,l5,l6⟩⟩
theorem rd_right (h:Rd enc Tryz.prog W 88 cs):∃v:ScR,cs.all (okv W.heap.size)=true/\ScRR (ro W) (cs.map nz) v/\v.Fit:=by
 have cS:Tryz.prog.cellsOf 88=5:=by kernel_rfl
 obtain⟨h1,h2⟩:=rd_struct Tryz.underlying88 h
 rw[cS] at h1
 obtain⟨x0,x1,x2,x3,x4,rfl⟩:∃x0 x1 x2 x3 x4,cs=[x0,x1,x2,x3,x4]:=by
  match cs,h1 with
  | [x0,x1,x2,x3,x4],_=>exact⟨x0,x1,x2,x3,x4,rfl⟩
 have c0:Tryz.prog.cellsOf 9=1:=by kernel_rfl
 have f0:Rd enc Tryz.prog W 9 (([x0,x1,x2,x3,x4].drop 0).take (Tryz.prog.cellsOf 9)):=h2 0 _ rfl
 rw[c0] at f0
 obtain⟨n0,e0,l0⟩:=rd_string Tryz.underlying9 f0
 have c1:Tryz.prog.cellsOf 9=1:=by kernel_rfl
 have f1:Rd enc Tryz.prog W 9 (([x0,x1,x2,x3,x4].drop 1).take (Tryz.prog.cellsOf 9)):=h2 1 _ rfl
 rw[c1] at f1
 obtain⟨n1,e1,l1⟩:=rd_string Tryz.underlying9 f1
 have c2:Tryz.prog.cellsOf 3=1:=by kernel_rfl
 have f2:Rd enc Tryz.prog W 3 (([x0,x1,x2,x3,x4].drop 2).take (Tryz.prog.cellsOf 3)):=h2 2 _ rfl
 rw[c2] at f2
 obtain⟨n2,e2,l2⟩:=rd_int Tryz.underlying3 f2
 have c3:Tryz.prog.cellsOf 49=2:=by kernel_rfl
 have f3:Rd enc Tryz.prog W 49 (([x0,x1,x2,x3,x4].drop 3).take (Tryz.prog.cellsOf 49)):=h2 3 _ rfl
 rw[c3] at f3
 obtain⟨n3,e3,l3,m3⟩:=rd_sp f3
 simp at e0 e1 e2 e3
 subst e0
 subst e1
 subst e2
 obtain⟨rfl,rfl⟩:=e3
 refine⟨⟨n0,n1,n2,n3⟩,rfl,rfl,⟨l0,l1,l2,⟨l3,m3⟩⟩⟩
theorem rd_print (h:Rd enc Tryz.prog W 56 cs):∃v:ScP,cs.all (okv W.heap.size)=true/\ScPR (ro W) (cs.map nz) v/\v.Fit:=by
 have cS:Tryz.prog.cellsOf 56=7:=by kernel_rfl
 obtain⟨h1,h2⟩:=rd_struct Tryz.underlying56 h
 rw[cS] at h1
 obtain⟨x0,x1,x2,x3,x4,x5,x6,rfl⟩:∃x0 x1 x2 x3 x4 x5 x6,cs=[x0,x1,x2,x3,x4,x5,x6]:=by
  match cs,h1 with
  | [x0,x1,x2,x3,x4,x5,x6],_=>exact⟨x0,x1,x2,x3,x4,x5,x6,rfl⟩
 have c0:Tryz.prog.cellsOf 9=1:=by kernel_rfl
 have f0:Rd enc Tryz.prog W 9 (([x0,x1,x2,x3,x4,x5,x6].drop 0).take (Tryz.prog.cellsOf 9)):=h2 0 _ rfl
 rw[c0] at f0
 obtain⟨n0,e0,l0⟩:=rd_string Tryz.underlying9 f0
 have c1:Tryz.prog.cellsOf 9=1:=by kernel_rfl
 have f1:Rd enc Tryz.prog W 9 (([x0,x1,x2,x3,x4,x5,x6].drop 1).take (Tryz.prog.cellsOf 9)):=h2 1 _ rfl
 rw[c1] at f1
 obtain⟨n1,e1,l1⟩:=rd_string Tryz.underlying9 f1
 have c2:Tryz.prog.cellsOf 9=1:=by kernel_rfl
 have f2:Rd enc Tryz.prog W 9 (([x0,x1,x2,x3,x4,x5,x6].drop 2).take (Tryz.prog.cellsOf 9)):=h2 2 _ rfl
 rw[c2] at f2
 obtain⟨n2,e2,l2⟩:=rd_string Tryz.underlying9 f2
 have c3:Tryz.prog.cellsOf 52=1:=by kernel_rfl
 have f3:Rd enc Tryz.prog W 52 (([x0,x1,x2,x3,x4,x5,x6].drop 3).take (Tryz.prog.cellsOf 52)):=h2 3 _ rfl
 rw[c3] at f3
 obtain⟨v3,a3,n3,cap3,e3,ok3,nz3,hI3,hL3,hF3⟩:=rd_ints Tryz.underlying52 Tryz.underlying3 (by kernel_rfl) f3
 have c4:Tryz.prog.cellsOf 49=2:=by kernel_rfl
 have f4:Rd enc Tryz.prog W 49 (([x0,x1,x2,x3,x4,x5,x6].drop 4).take (Tryz.prog.cellsOf 49)):=h2 4 _ rfl
 rw[c4] at f4
 obtain⟨n4,e4,l4,m4⟩:=rd_sp f4
 have c5:Tryz.prog.cellsOf 3=1:=by kernel_rfl
 have f5:Rd enc Tryz.prog W 3 (([x0,x1,x2,x3,x4,x5,x6].drop 6).take (Tryz.prog.cellsOf 3)):=h2 5 _ rfl
 rw[c5] at f5
 obtain⟨n5,e5,l5⟩:=rd_int Tryz.underlying3 f5
 simp at e0 e1 e2 e3 e4 e5
 subst e0
 subst e1
 subst e2
 subst e3
 obtain⟨rfl,rfl⟩:=e4
 subst e5
 refine⟨⟨n0,n1,n2,n3,n4,n5⟩,?_,⟨a3,cap3,?_,hI3⟩,⟨l0,l1,l2,hL3,hF3,⟨l4,m4⟩,l5⟩⟩
 ·simp[ok3]
  try (repeat' constructor)
 ·simp only[List.map_cons,List.map_nil,nz3];rfl
theorem rd_pack (h:Rd enc Tryz.prog W 86 cs):∃v:ScPk,cs.all (okv W.heap.size)=true/\ScPkR (ro W) (cs.map nz) v/\v.Fit:=by
 have cS:Tryz.prog.cellsOf 86=5:=by kernel_rfl
 obtain⟨h1,h2⟩:=rd_struct Tryz.underlying86 h
 rw[cS] at h1
 obtain⟨x0,x1,x2,x3,x4,rfl⟩:∃x0 x1 x2 x3 x4,cs=[x0,x1,x2,x3,x4]:=by
  match cs,h1 with
  | [x0,x1,x2,x3,x4],_=>exact⟨x0,x1,x2,x3,x4,rfl⟩
 have c0:Tryz.prog.cellsOf 9=1:=by kernel_rfl
 have f0:Rd enc Tryz.prog W 9 (([x0,x1,x2,x3,x4].drop 0).take (Tryz.prog.cellsOf 9)):=h2 0 _ rfl
 rw[c0] at f0
 obtain⟨n0,e0,l0⟩:=rd_string Tryz.underlying9 f0
 have c1:Tryz.prog.cellsOf 9=1:=by kernel_rfl
 have f1:Rd enc Tryz.prog W 9 (([x0,x1,x2,x3,x4].drop 1).take (Tryz.prog.cellsOf 9)):=h2 1 _ rfl
 rw[c1] at f1
 obtain⟨n1,e1,l1⟩:=rd_string Tryz.underlying9 f1
 have c2:Tryz.prog.cellsOf 9=1:=by kernel_rfl
 have f2:Rd enc Tryz.prog W 9 (([x0,x1,x2,x3,x4].drop 2).take (Tryz.prog.cellsOf 9)):=h2 2 _ rfl
 rw[c2] at f2
 obtain⟨n2,e2,l2⟩:=rd_string Tryz.underlying9 f2
 have c3:Tryz.prog.cellsOf 3=1:=by kernel_rfl
 have f3:Rd enc Tryz.prog W 3 (([x0,x1,x2,x3,x4].drop 3).take (Tryz.prog.cellsOf 3)):=h2 3 _ rfl
 rw[c3] at f3
 obtain⟨n3,e3,l3⟩:=rd_int Tryz.underlying3 f3
 have c4:Tryz.prog.cellsOf 3=1:=by kernel_rfl
 have f4:Rd enc Tryz.prog W 3 (([x0,x1,x2,x3,x4].drop 4).take (Tryz.prog.cellsOf 3)):=h2 4 _ rfl
 rw[c4] at f4
 obtain⟨n4,e4,l4⟩:=rd_int Tryz.underlying3 f4
 simp at e0 e1 e2 e3 e4
 subst e0
 subst e1
 subst e2
 subst e3
 subst e4
 refine⟨⟨n0,n1,n2,n3,n4⟩,rfl,rfl,⟨l0,l1,l2,l3,l4⟩⟩
theorem rd_key (h:Rd enc Tryz.prog W 90 cs):∃v:ScK,cs.all (okv W.heap.size)=true/\ScKR (ro W) (cs.map nz) v/\v.Fit:=by
 have cS:Tryz.prog.cellsOf 90=4:=by kernel_rfl
 obtain⟨h1,h2⟩:=rd_struct Tryz.underlying90 h
 rw[cS] at h1
 obtain⟨x0,x1,x2,x3,rfl⟩:∃x0 x1 x2 x3,cs=[x0,x1,x2,x3]:=by
  match cs,h1 with
  | [x0,x1,x2,x3],_=>exact⟨x0,x1,x2,x3,rfl⟩
 have c0:Tryz.prog.cellsOf 3=1:=by kernel_rfl
 have f0:Rd enc Tryz.prog W 3 (([x0,x1,x2,x3].drop 0).take (Tryz.prog.cellsOf 3)):=h2 0 _ rfl
 rw[c0] at f0
 obtain⟨n0,e0,l0⟩:=rd_int Tryz.underlying3 f0
 have c1:Tryz.prog.cellsOf 3=1:=by kernel_rfl
 have f1:Rd enc Tryz.prog W 3 (([x0,x1,x2,x3].drop 1).take (Tryz.prog.cellsOf 3)):=h2 1 _ rfl
 rw[c1] at f1
 obtain⟨n1,e1,l1⟩:=rd_int Tryz.underlying3 f1
 have c2:Tryz.prog.cellsOf 49=2:=by kernel_rfl
 have f2:Rd enc Tryz.prog W 49 (([x0,x1,x2,x3].drop 2).take (Tryz.prog.cellsOf 49)):=h2 2 _ rfl
 rw[c2] at f2
 obtain⟨n2,e2,l2,m2⟩:=rd_sp f2
 simp at e0 e1 e2
 subst e0
 subst e1
 obtain⟨rfl,rfl⟩:=e2
 refine⟨⟨n0,n1,n2⟩,rfl,rfl,⟨l0,l1,⟨l2,m2⟩⟩⟩
theorem rd_loan (h:Rd enc Tryz.prog W 51 cs):∃v:ScL,cs.all (okv W.heap.size)=true/\ScLR (ro W) (cs.map nz) v/\v.Fit:=by
 have cS:Tryz.prog.cellsOf 51=4:=by kernel_rfl
 obtain⟨h1,h2⟩:=rd_struct Tryz.underlying51 h
 rw[cS] at h1
 obtain⟨x0,x1,x2,x3,rfl⟩:∃x0 x1 x2 x3,cs=[x0,x1,x2,x3]:=by
  match cs,h1 with
  | [x0,x1,x2,x3],_=>exact⟨x0,x1,x2,x3,rfl⟩
 have c0:Tryz.prog.cellsOf 3=1:=by kernel_rfl
 have f0:Rd enc Tryz.prog W 3 (([x0,x1,x2,x3].drop 0).take (Tryz.prog.cellsOf 3)):=h2 0 _ rfl
 rw[c0] at f0
 obtain⟨n0,e0,l0⟩:=rd_int Tryz.underlying3 f0
 have c1:Tryz.prog.cellsOf 3=1:=by kernel_rfl
 have f1:Rd enc Tryz.prog W 3 (([x0,x1,x2,x3].drop 1).take (Tryz.prog.cellsOf 3)):=h2 1 _ rfl
 rw[c1] at f1
 obtain⟨n1,e1,l1⟩:=rd_int Tryz.underlying3 f1
 have c2:Tryz.prog.cellsOf 49=2:=by kernel_rfl
 have f2:Rd enc Tryz.prog W 49 (([x0,x1,x2,x3].drop 2).take (Tryz.prog.cellsOf 49)):=h2 2 _ rfl
 rw[c2] at f2
 obtain⟨n2,e2,l2,m2⟩:=rd_sp f2
 simp at e0 e1 e2
 subst e0
 subst e1
 obtain⟨rfl,rfl⟩:=e2
 refine⟨⟨n0,n1,n2⟩,rfl,rfl,⟨l0,l1,⟨l2,m2⟩⟩⟩
theorem rd_show (h:Rd enc Tryz.prog W 42 cs):∃v:ScS,cs.all (okv W.heap.size)=true/\ScSR (ro W) (cs.map nz) v/\v.Fit:=by
 have cS:Tryz.prog.cellsOf 42=6:=by kernel_rfl
 obtain⟨h1,h2⟩:=rd_struct Tryz.underlying42 h
 rw[cS] at h1
 obtain⟨x0,x1,x2,x3,x4,x5,rfl⟩:∃x0 x1 x2 x3 x4 x5,cs=[x0,x1,x2,x3,x4,x5]:=by
  match cs,h1 with
  | [x0,x1,x2,x3,x4,x5],_=>exact⟨x0,x1,x2,x3,x4,x5,rfl⟩
 have c0:Tryz.prog.cellsOf 3=1:=by kernel_rfl
 have f0:Rd enc Tryz.prog W 3 (([x0,x1,x2,x3,x4,x5].drop 0).take (Tryz.prog.cellsOf 3)):=h2 0 _ rfl
 rw[c0] at f0
 obtain⟨n0,e0,l0⟩:=rd_int Tryz.underlying3 f0
 have c1:Tryz.prog.cellsOf 3=1:=by kernel_rfl
 have f1:Rd enc Tryz.prog W 3 (([x0,x1,x2,x3,x4,x5].drop 1).take (Tryz.prog.cellsOf 3)):=h2 1 _ rfl
 rw[c1] at f1
 obtain⟨n1,e1,l1⟩:=rd_int Tryz.underlying3 f1
 have c2:Tryz.prog.cellsOf 3=1:=by kernel_rfl
 have f2:Rd enc Tryz.prog W 3 (([x0,x1,x2,x3,x4,x5].drop 2).take (Tryz.prog.cellsOf 3)):=h2 2 _ rfl
 rw[c2] at f2
 obtain⟨n2,e2,l2⟩:=rd_int Tryz.underlying3 f2
 have c3:Tryz.prog.cellsOf 3=1:=by kernel_rfl
 have f3:Rd enc Tryz.prog W 3 (([x0,x1,x2,x3,x4,x5].drop 3).take (Tryz.prog.cellsOf 3)):=h2 3 _ rfl
 rw[c3] at f3
 obtain⟨n3,e3,l3⟩:=rd_int Tryz.underlying3 f3
 have c4:Tryz.prog.cellsOf 3=1:=by kernel_rfl
 have f4:Rd enc Tryz.prog W 3 (([x0,x1,x2,x3,x4,x5].drop 4).take (Tryz.prog.cellsOf 3)):=h2 4 _ rfl
 rw[c4] at f4
 obtain⟨n4,e4,l4⟩:=rd_int Tryz.underlying3 f4
 have c5:Tryz.prog.cellsOf 3=1:=by kernel_rfl
 have f5:Rd enc Tryz.prog W 3 (([x0,x1,x2,x3,x4,x5].drop 5).take (Tryz.prog.cellsOf 3)):=h2 5 _ rfl
 rw[c5] at f5
 obtain⟨n5,e5,l5⟩:=rd_int Tryz.underlying3 f5
 simp at e0 e1 e2 e3 e4 e5
 subst e0
 subst e1
 subst e2
 subst e3
 subst e4
 subst e5
 refine⟨⟨n0,n1,n2,n3,n4,n5⟩,rfl,rfl,⟨l0,l1,l2,l3,l4,l5⟩⟩
theorem rd_sctask (h:Rd enc Tryz.prog W 31 cs):∃v:ScT,cs.all (okv W.heap.size)=true/\ScTAt (ro W) (cs.map nz) v/\v.Fit:=by
 have cS:Tryz.prog.cellsOf 31=9:=by kernel_rfl
 obtain⟨h1,h2⟩:=rd_struct Tryz.underlying31 h
 rw[cS] at h1
 obtain⟨x0,x1,x2,x3,x4,x5,x6,x7,x8,rfl⟩:∃x0 x1 x2 x3 x4 x5 x6 x7 x8,cs=[x0,x1,x2,x3,x4,x5,x6,x7,x8]:=by
  match cs,h1 with
  | [x0,x1,x2,x3,x4,x5,x6,x7,x8],_=>exact⟨x0,x1,x2,x3,x4,x5,x6,x7,x8,rfl⟩
 have c0:Tryz.prog.cellsOf 3=1:=by kernel_rfl
 have f0:Rd enc Tryz.prog W 3 (([x0,x1,x2,x3,x4,x5,x6,x7,x8].drop 0).take (Tryz.prog.cellsOf 3)):=h2 0 _ rfl
 rw[c0] at f0
 obtain⟨n0,e0,l0⟩:=rd_int Tryz.underlying3 f0
 have c1:Tryz.prog.cellsOf 22=1:=by kernel_rfl
 have f1:Rd enc Tryz.prog W 22 (([x0,x1,x2,x3,x4,x5,x6,x7,x8].drop 1).take (Tryz.prog.cellsOf 22)):=h2 1 _ rfl
 rw[c1] at f1
 obtain⟨v1,a1,n1,cap1,e1,ok1,nz1,hI1,hL1,hF1⟩:=rd_strsP f1
 have c2:Tryz.prog.cellsOf 23=1:=by kernel_rfl
 have f2:Rd enc Tryz.prog W 23 (([x0,x1,x2,x3,x4,x5,x6,x7,x8].drop 2).take (Tryz.prog.cellsOf 23)):=h2 2 _ rfl
 rw[c2] at f2
 obtain⟨v2,a2,n2,cap2,e2,ok2,nz2,hI2,hL2,hF2⟩:=rd_rows (R:=ScTvR) (Fit:=fun l=>Len l/\∀n∈l,I64 n) Tryz.underlying23 (k:=1) (by kernel_rfl) (by decide) (fun row hr=>rd_line hr) f2
 have c3:Tryz.prog.cellsOf 24=1:=by kernel_rfl
 have f3:Rd enc Tryz.prog W 24 (([x0,x1,x2,x3,x4,x5,x6,x7,x8].drop 3).take (Tryz.prog.cellsOf 24)):=h2 3 _ rfl
 rw[c3] at f3
 obtain⟨v3,a3,n3,cap3,e3,ok3,nz3,hI3,hL3,hF3⟩:=rd_rows (R:=ScVR) (Fit:=ScV.Fit) Tryz.underlying24 (k:=9) (by kernel_rfl) (by decide) (fun row hr=>rd_venue hr) f3
 have c4:Tryz.prog.cellsOf 25=1:=by kernel_rfl
 have f4:Rd enc Tryz.prog W 25 (([x0,x1,x2,x3,x4,x5,x6,x7,x8].drop 4).take (Tryz.prog.cellsOf 25)):=h2 4 _ rfl
 rw[c4] at f4
 obtain⟨v4,a4,n4,cap4,e4,ok4,nz4,hI4,hL4,hF4⟩:=rd_rows (R:=ScRR) (Fit:=ScR.Fit) Tryz.underlying25 (k:=5) (by kernel_rfl) (by decide) (fun row hr=>rd_right hr) f4
 have c5:Tryz.prog.cellsOf 26=1:=by kernel_rfl
 have f5:Rd enc Tryz.prog W 26 (([x0,x1,x2,x3,x4,x5,x6,x7,x8].drop 5).take (Tryz.prog.cellsOf 26)):=h2 5 _ rfl
 rw[c5] at f5
 obtain⟨v5,a5,n5,cap5,e5,ok5,nz5,hI5,hL5,hF5⟩:=rd_rows (R:=ScPR) (Fit:=ScP.Fit) Tryz.underlying26 (k:=7) (by kernel_rfl) (by decide) (fun row hr=>rd_print hr) f5
 have c6:Tryz.prog.cellsOf 27=1:=by kernel_rfl
 have f6:Rd enc Tryz.prog W 27 (([x0,x1,x2,x3,x4,x5,x6,x7,x8].drop 6).take (Tryz.prog.cellsOf 27)):=h2 6 _ rfl
 rw[c6] at f6
 obtain⟨v6,a6,n6,cap6,e6,ok6,nz6,hI6,hL6,hF6⟩:=rd_rows (R:=ScPkR) (Fit:=ScPk.Fit) Tryz.underlying27 (k:=5) (by kernel_rfl) (by decide) (fun row hr=>rd_pack hr) f6
 have c7:Tryz.prog.cellsOf 28=1:=by kernel_rfl
 have f7:Rd enc Tryz.prog W 28 (([x0,x1,x2,x3,x4,x5,x6,x7,x8].drop 7).take (Tryz.prog.cellsOf 28)):=h2 7 _ rfl
 rw[c7] at f7
 obtain⟨v7,a7,n7,cap7,e7,ok7,nz7,hI7,hL7,hF7⟩:=rd_rows (R:=ScKR) (Fit:=ScK.Fit) Tryz.underlying28 (k:=4) (by kernel_rfl) (by decide) (fun row hr=>rd_key hr) f7
 have c8:Tryz.prog.cellsOf 29=1:=by kernel_rfl
 have f8:Rd enc Tryz.prog W 29 (([x0,x1,x2,x3,x4,x5,x6,x7,x8].drop 8).take (Tryz.prog.cellsOf 29)):=h2 8 _ rfl
 rw[c8] at f8
 obtain⟨v8,a8,n8,cap8,e8,ok8,nz8,hI8,hL8,hF8⟩:=rd_rows (R:=ScLR) (Fit:=ScL.Fit) Tryz.underlying29 (k:=4) (by kernel_rfl) (by decide) (fun row hr=>rd_loan hr) f8
 simp at e0 e1 e2 e3 e4 e5 e6 e7 e8
 subst e0
 subst e1
 subst e2
 subst e3
 subst e4
 subst e5
 subst e6
 subst e7
 subst e8
 refine⟨⟨n0,n1,n2,n3,n4,n5,n6,n7,n8⟩,?_,⟨a1,cap1,a2,cap2,a3,cap3,a4,cap4,a5,cap5,a6,cap6,a7,cap7,a8,cap8,?_,hI1,hI2,hI3,hI4,hI5,hI6,hI7,hI8⟩,⟨l0,hL1,hF1,hL2,hF2,hL3,hF3,hL4,hF4,hL5,hF5,hL6,hF6,hL7,hF7,hL8,hF8⟩⟩
 ·simp[ok1,ok2,ok3,ok4,ok5,ok6,ok7,ok8]
  try (repeat' constructor)
 ·simp only[List.map_cons,List.map_nil,nz1,nz2,nz3,nz4,nz5,nz6,nz7,nz8];rfl
end
end Go.Dw
/- SR2: reading numbers of one byte, lists of shows, lists that are cut. -/
namespace Go.Dw
open Go Go.Dx Go.Proofs
set_option maxRecDepth 100000
section
variable {P:Program}{H:Type}{enc:TypeId×Value->H}{W:World}{cs:List Value}{t e:TypeId}
end
end Go.Dw
