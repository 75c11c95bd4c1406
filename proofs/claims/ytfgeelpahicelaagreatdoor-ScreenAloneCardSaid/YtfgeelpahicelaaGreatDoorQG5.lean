/- SA: chapter 11 with no program in sight: a task, what is wrong with it. -/
import Derived.Test.YtfgeelpahicelaaGreatDoorQG3
import Derived.Test.YtfgeelpahicelaaGreatDoorQG2
set_option linter.unusedVariables false
set_option linter.unusedSimpArgs false
namespace Go.Dw
open Go Go.Dx Go.Proofs
structure Sp where
 lo:Int
 hi:Int
structure ScV where
 name:List UInt8
 land:Int
 proj:Int
 speeds:Sp
 change:Int
 spool:Int
 turn:Int
 digital:Bool
structure ScR where
 work:List UInt8
 version:List UInt8
 land:Int
 days:Sp
structure ScP where
 name:List UInt8
 work:List UInt8
 version:List UInt8
 reels:List Int
 speeds:Sp
 land:Int
structure ScPk where
 name:List UInt8
 work:List UInt8
 version:List UInt8
 frames:Int
 speed:Int
structure ScK where
 pack:Int
 venue:Int
 window:Sp
structure ScL where
 print:Int
 venue:Int
 days:Sp
structure ScT where
 first:Int
 lands:List (List UInt8)
 travel:List (List Int)
 venues:List ScV
 rights:List ScR
 prints:List ScP
 packs:List ScPk
 keys:List ScK
 loans:List ScL
def nameErr (s:List UInt8)(before:List (List UInt8)):Int:=if nameR s=false then 6 else if s∈before then 5 else 0
def oddS (s:Sp)(lo hi:Int):Int:=if (s.lo<lo\/hi<s.lo)\/(s.hi<lo\/hi<s.hi) then 7 else if s.hi<s.lo then 2 else 0
def travelErr (t:ScT):Int :=
 if t.travel.length≠t.lands.length then 2 else if (t.travel.any fun l=>decide (l.length≠t.lands.length))=true then 2
 else if (t.travel.any fun l=>l.any fun n=>decide (n < -1\/60<n))=true then 7 else 0
def abroad (t:ScT)(n:Int):Prop:=n<0\/(t.lands.length:Int)-1<n
instance (t:ScT)(n:Int):Decidable (abroad t n):=inferInstanceAs (Decidable (n<0\/_<n))
def venueErr (t:ScT)(v:ScV):Int :=
 if abroad t v.land then 4 else if (v.proj<0\/2<v.proj)\/(v.change<0\/60<v.change)\/(v.turn<0\/60<v.turn)\/(v.spool<1\/200000<v.spool) then 7 else oddS v.speeds 1 60
def rightErr (t:ScT)(r:ScR):Int :=
 if nameR r.work=false\/(r.version≠[]/\nameR r.version=false) then 6 else if abroad t r.land then 4 else oddS r.days 0 80000
def printErr (t:ScT)(p:ScP):Int :=
 if nameR p.work=false\/nameR p.version=false then 6 else if p.reels.length<1\/12<p.reels.length then 3
 else if (p.reels.any fun n=>decide (n<1\/200000<n))=true then 7 else if oddS p.speeds 1 60≠0 then oddS p.speeds 1 60 else if abroad t p.land then 4 else 0
def packErr (p:ScPk):Int :=
 if nameR p.work=false\/nameR p.version=false then 6 else if (p.frames<1\/2400000<p.frames)\/(p.speed<1\/60<p.speed) then 7 else 0
def keyErr (t:ScT)(k:ScK):Int :=
 if (k.pack<0\/(t.packs.length:Int)-1<k.pack)\/(k.venue<0\/(t.venues.length:Int)-1<k.venue) then 4 else oddS k.window 0 57600
def loanErr (t:ScT)(l:ScL):Int :=
 if (l.print<0\/(t.prints.length:Int)-1<l.print)\/(l.venue<0\/(t.venues.length:Int)-1<l.venue) then 4 else oddS l.days 0 80000
def goNm {α:Type}(nm:α->List UInt8)(wrong:α->Int):Nat->List (List UInt8)->List α->Option (Nat×Int)
 | _,_,[]=>none
 | i,b,x::xs=>if nameErr (nm x) b≠0 then some (i,nameErr (nm x) b) else if wrong x≠0 then some (i,wrong x) else goNm nm wrong (i+1) (b++[nm x]) xs
def goEa {α:Type}(wrong:α->Int):Nat->List α->Option (Nat×Int)
 | _,[]=>none
 | i,x::xs=>if wrong x≠0 then some (i,wrong x) else goEa wrong (i+1) xs
def orE (part:Int):Option (Nat×Int)->Int×Int×Int->Int×Int×Int
 | some (i,e),_=>(part,(i:Nat),e)
 | none,x=>x
def checkSc (t:ScT):Int×Int×Int :=
 if t.first<0\/80000<t.first then (1,0,7)
 else if (t.lands.length<1\/8<t.lands.length)\/(t.venues.length<1\/8<t.venues.length)\/30<t.rights.length\/12<t.prints.length\/12<t.packs.length\/30<t.keys.length\/30<t.loans.length then (1,0,3)
 else orE 2 (goNm id (fun _=>0) 0 [] t.lands) (if travelErr t≠0 then (2,0,travelErr t)
 else orE 3 (goNm ScV.name (venueErr t) 0 [] t.venues) (orE 4 (goEa (rightErr t) 0 t.rights) (orE 5 (goNm ScP.name (printErr t) 0 [] t.prints) (orE 6 (goNm ScPk.name packErr 0 [] t.packs)
  (orE 7 (goEa (keyErr t) 0 t.keys) (orE 8 (goEa (loanErr t) 0 t.loans) (0,0,0)))))))
def errSc (t:ScT):Int:=(checkSc t).2.2
def spVs (s:Sp):List Value:=[i64 s.lo,i64 s.hi]
def ScVR (_:Heap)(row:List Value)(v:ScV):Prop:=row=[str v.name,i64 v.land,i64 v.proj,i64 v.speeds.lo,i64 v.speeds.hi,i64 v.change,i64 v.spool,i64 v.turn,.bool v.digital]
def ScRR (_:Heap)(row:List Value)(r:ScR):Prop:=row=[str r.work,str r.version,i64 r.land,i64 r.days.lo,i64 r.days.hi]
def ScPR (h:Heap)(row:List Value)(p:ScP):Prop:=∃a c,row=[str p.name,str p.work,str p.version,.slice a p.reels.length c,i64 p.speeds.lo,i64 p.speeds.hi,i64 p.land]/\IntsAt h a p.reels
def ScPkR (_:Heap)(row:List Value)(p:ScPk):Prop:=row=[str p.name,str p.work,str p.version,i64 p.frames,i64 p.speed]
def ScKR (_:Heap)(row:List Value)(k:ScK):Prop:=row=[i64 k.pack,i64 k.venue,i64 k.window.lo,i64 k.window.hi]
def ScLR (_:Heap)(row:List Value)(l:ScL):Prop:=row=[i64 l.print,i64 l.venue,i64 l.days.lo,i64 l.days.hi]
def ScTvR (h:Heap)(row:List Value)(l:List Int):Prop:=∃a c,row=[.slice a l.length c]/\IntsAt h a l
structure ParL {α:Type}(enc:α->Value)(h:Heap)(a:Option Addr)(l:List α)(cap:Nat):Prop where
 at':ListAt enc h a l
 le:l.length<=cap
 plain:l≠[]->∃b o,a=some ⟨b,o,none⟩
theorem ParL.ext {α:Type}{enc:α->Value}{h h':Heap}{a:Option Addr}{l:List α}{cap:Nat}(p:ParL enc h a l cap)(he:Ext h h'):ParL enc h' a l cap:=⟨p.at'.ext he,p.le,p.plain⟩
theorem ParL.take {α:Type}{enc:α->Value}{h:Heap}{a:Option Addr}{l:List α}{cap:Nat}(p:ParL enc h a l cap)(k:Nat):ListAt enc h a (l.take k):=by
 intro i hi
 simp only[List.length_take] at hi
 obtain⟨b,o,oa,e,hc⟩:=p.at' i (by omega)
 exact⟨b,o,oa,e,by simpa only[List.getElem_take] using hc⟩
def ScTAt (h:Heap)(row:List Value)(t:ScT):Prop:=∃al cl at' ct a1 c1 a2 c2 a3 c3 a4 c4 a5 c5 a6 c6,row=[i64 t.first,.slice al t.lands.length cl,.slice at' t.travel.length ct,.slice a1 t.venues.length c1,.slice a2 t.rights.length c2,.slice a3 t.prints.length c3,.slice a4 t.packs.length c4,.slice a5 t.keys.length c5,.slice a6 t.loans.length c6] ∧
 ParL str h al t.lands cl/\RowsAt 1 ScTvR h at' t.travel/\RowsAt 9 ScVR h a1 t.venues/\RowsAt 5 ScRR h a2 t.rights/\RowsAt 7 ScPR h a3 t.prints/\RowsAt 5 ScPkR h a4 t.packs/\RowsAt 4 ScKR h a5 t.keys/\RowsAt 4 ScLR h a6 t.loans
theorem ScPR.ext {h h':Heap}{row:List Value}{p:ScP}(a:ScPR h row p)(he:Ext h h'):ScPR h' row p:=by
 obtain⟨x,c,e,h1⟩:=a
 exact⟨x,c,e,h1.ext he⟩
theorem ScTvR.ext {h h':Heap}{row:List Value}{l:List Int}(a:ScTvR h row l)(he:Ext h h'):ScTvR h' row l:=by
 obtain⟨x,c,e,h1⟩:=a
 exact⟨x,c,e,h1.ext he⟩
theorem ScTAt.ext {h h':Heap}{row:List Value}{t:ScT}(a:ScTAt h row t)(he:Ext h h'):ScTAt h' row t:=by
 obtain⟨al,cl,at',ct,a1,c1,a2,c2,a3,c3,a4,c4,a5,c5,a6,c6,e,h1,h2,h3,h4,h5,h6,h7,h8⟩:=a
 exact⟨al,cl,at',ct,a1,c1,a2,c2,a3,c3,a4,c4,a5,c5,a6,c6,e,h1.ext he,RowsAt.ext (R:=ScTvR) (fun x y=>ScTvR.ext x y) h2 he,RowsAt.ext (R:=ScVR) (fun x _=>x) h3 he,RowsAt.ext (R:=ScRR) (fun x _=>x) h4 he,RowsAt.ext (R:=ScPR) (fun x y=>ScPR.ext x y) h5 he,RowsAt.ext (R:=ScPkR) (fun x _=>x) h6 he,RowsAt.ext (R:=ScKR) (fun x _=>x) h7 he,RowsAt.ext (R:=ScLR) (fun x _=>x) h8 he⟩
structure ScV.Fit (v:ScV):Prop where
 name:Len v.name
 land:I64 v.land
 proj:I64 v.proj
 speeds:I64 v.speeds.lo/\I64 v.speeds.hi
 change:I64 v.change
 spool:I64 v.spool
 turn:I64 v.turn
structure ScR.Fit (r:ScR):Prop where
 work:Len r.work
 version:Len r.version
 land:I64 r.land
 days:I64 r.days.lo/\I64 r.days.hi
structure ScP.Fit (p:ScP):Prop where
 name:Len p.name
 work:Len p.work
 version:Len p.version
 reels:Len p.reels
 reelsI:∀n∈p.reels,I64 n
 speeds:I64 p.speeds.lo/\I64 p.speeds.hi
 land:I64 p.land
structure ScPk.Fit (p:ScPk):Prop where
 name:Len p.name
 work:Len p.work
 version:Len p.version
 frames:I64 p.frames
 speed:I64 p.speed
structure ScK.Fit (k:ScK):Prop where
 pack:I64 k.pack
 venue:I64 k.venue
 window:I64 k.window.lo/\I64 k.window.hi
structure ScL.Fit (l:ScL):Prop where
 print:I64 l.print
 venue:I64 l.venue
 days:I64 l.days.lo/\I64 l.days.hi
structure ScT.Fit (t:ScT):Prop where
 first:I64 t.first
 lands:Len t.lands
 landsL:∀s∈t.lands,Len s
 travel:Len t.travel
 travelL:∀l∈t.travel,Len l/\∀n∈l,I64 n
 venues:Len t.venues
 venuesF:∀v∈t.venues,v.Fit
 rights:Len t.rights
 rightsF:∀r∈t.rights,r.Fit
 prints:Len t.prints
 printsF:∀p∈t.prints,p.Fit
 packs:Len t.packs
 packsF:∀p∈t.packs,p.Fit
 keys:Len t.keys
 keysF:∀k∈t.keys,k.Fit
 loans:Len t.loans
 loansF:∀l∈t.loans,l.Fit
end Go.Dw
/- SB: chapter 11 with no program in sight: loans: in whatever order those of one day are looked at. -/
namespace Go.Dw
open Go Go.Dx Go.Proofs
def noV:ScV:=⟨[],0,0,⟨0,0⟩,0,0,0,false⟩
def venLand (t:ScT)(v:Int):Int:=(t.venues.getD v.toNat noV).land
def trv (t:ScT)(a b:Int):Int:=(t.travel.getD a.toNat []).getD b.toNat 0
def stopG (t:ScT)(at':Int)(fr:Option Int)(y:ScL):Bool :=
 decide (trv t at' (venLand t y.venue)<0) || (match fr with|none=>false|some f=>decide (y.days.lo-f<=trv t at' (venLand t y.venue)))
def goG (t:ScT):Int->Option Int->List ScL->Option Int
 | at',_,[]=>some at'
 | at',fr,y::l=>if stopG t at' fr y=true then none else goG t (venLand t y.venue) (some y.days.hi) l
def canG (t:ScT)(home:Int)(l:List ScL):Bool:=match goG t home none l with|none=>false|some at'=>decide (0<=trv t at' home)
def loLe (a b:ScL):Prop:=a.days.lo<=b.days.lo
theorem goG_twice {t:ScT}:∀{l:List ScL}{at':Int}{fr:Option Int},l.Pairwise loLe->(∀y∈l,y.days.lo<=y.days.hi)->¬(l.map fun y=>y.days.lo).Nodup->goG t at' fr l=none
 | [],_,_,_,_,h=>absurd List.nodup_nil h
 | [y],_,_,_,_,h=>absurd (by simp) h
 | y::z::l,at',fr,hs,hv,h=>by
  rw[goG]
  split
  ·rfl
  rw[List.pairwise_cons] at hs
  by_cases e:z.days.lo=y.days.lo
  ·rw[goG,if_pos]
   unfold stopG
   have:=hv y List.mem_cons_self
   by_cases n0:trv t (venLand t y.venue) (venLand t z.venue)<0
   ·rw[decide_eq_true n0];rfl
   ·simp only[Bool.or_eq_true,decide_eq_true_eq]
    right
    omega
  ·refine goG_twice hs.2 (fun x hx=>hv x (List.mem_cons_of_mem _ hx)) fun hn=>h ?_
   rw[List.map_cons,List.nodup_cons]
   refine⟨fun hm=>?_,hn⟩
   obtain⟨x,hx,ex⟩:=List.mem_map.1 hm
   have h1:=hs.1 z List.mem_cons_self
   unfold loLe at h1
   rcases List.mem_cons.1 hx with rfl|hx
   ·exact e ex
   ·have h2:=(List.pairwise_cons.1 hs.2).1 x hx
    unfold loLe at h2
    omega
theorem canG_twice {t:ScT}{home:Int}{l:List ScL}(hs:l.Pairwise loLe)(hv:∀y∈l,y.days.lo<=y.days.hi)(h:¬(l.map fun y=>y.days.lo).Nodup):canG t home l=false:=by
 unfold canG
 rw[goG_twice hs hv h]
theorem sorted_perm_eq {α:Type}{R:α->α->Prop}(hR:∀a b,R a b->R b a->False):∀{l l':List α},l.Perm l'->l.Pairwise R->l'.Pairwise R->l=l'
 | [],l',hp,_,_=>(List.Perm.nil_eq hp)
 | a::l,l',hp,hs,hs'=>by
  cases l' with
  | nil=>exact absurd hp.length_eq (by simp)
  | cons b l' =>
   rw[List.pairwise_cons] at hs hs'
   have e:a=b:=by
    rcases List.mem_cons.1 (hp.subset List.mem_cons_self) with e|g
    ·exact e
    ·rcases List.mem_cons.1 (hp.symm.subset List.mem_cons_self) with e|k
     ·exact e.symm
     ·exact (hR _ _ (hs.1 b k) (hs'.1 a g)).elim
   subst e
   rw[sorted_perm_eq hR ((List.perm_cons a).1 hp) hs.2 hs'.2]
theorem lt_of_nodup {l:List ScL}(hs:l.Pairwise loLe)(hn:(l.map fun y=>y.days.lo).Nodup):l.Pairwise fun a b=>a.days.lo<b.days.lo:=by
 induction l with
 | nil=>exact .nil
 | cons a l ih =>
  rw[List.pairwise_cons] at hs ⊢
  rw[List.map_cons,List.nodup_cons] at hn
  refine⟨fun b hb=>?_,ih hs.2 hn.2⟩
  have h1:=hs.1 b hb
  unfold loLe at h1
  have:a.days.lo≠b.days.lo:=fun e=>hn.1 (List.mem_map.2 ⟨b,hb,e.symm⟩)
  omega
theorem canG_perm {t:ScT}{home:Int}{l l':List ScL}(hp:l.Perm l')(hs:l.Pairwise loLe)(hs':l'.Pairwise loLe)(hv:∀y∈l,y.days.lo<=y.days.hi):canG t home l=canG t home l':=by
 by_cases hn:(l.map fun y=>y.days.lo).Nodup
 ·have hn':(l'.map fun y=>y.days.lo).Nodup:=(hp.map _).nodup_iff.1 hn
  rw[sorted_perm_eq (R:=fun a b:ScL=>a.days.lo<b.days.lo) (fun a b h1 h2=>by omega) hp (lt_of_nodup hs hn) (lt_of_nodup hs' hn')]
 ·have hn':¬(l'.map fun y=>y.days.lo).Nodup:=fun h=>hn ((hp.map _).nodup_iff.2 h)
  rw[canG_twice hs hv hn,canG_twice hs' (fun y hy=>hv y (hp.symm.subset hy)) hn']
def insG (g:ScL)(l:List ScL):List ScL:=l.takeWhile (fun y=>decide (y.days.lo<g.days.lo))++g::l.dropWhile (fun y=>decide (y.days.lo<g.days.lo))
theorem insG_perm (g:ScL)(l:List ScL):(insG g l).Perm (g::l):=by
 unfold insG
 have h:=List.takeWhile_append_dropWhile (p:=fun y:ScL=>decide (y.days.lo<g.days.lo)) (l:=l)
 refine List.perm_middle.trans ?_
 rw[h]
theorem insG_sorted {g:ScL}:∀{l:List ScL},l.Pairwise loLe->(insG g l).Pairwise loLe
 | [],_=>by unfold insG;simp
 | a::l,hs=>by
  rw[List.pairwise_cons] at hs
  by_cases c:a.days.lo<g.days.lo
  ·have e:insG g (a::l)=a::insG g l:=by unfold insG;rw[List.takeWhile_cons_of_pos (by simpa using c),List.dropWhile_cons_of_pos (by simpa using c)];rfl
   rw[e,List.pairwise_cons]
   refine⟨fun b hb=>?_,insG_sorted hs.2⟩
   rcases List.mem_cons.1 ((insG_perm g l).subset hb) with rfl|hb
   ·exact Int.le_of_lt c
   ·exact hs.1 b hb
  ·have e:insG g (a::l)=g::a::l:=by unfold insG;rw[List.takeWhile_cons_of_neg (by simpa using c),List.dropWhile_cons_of_neg (by simpa using c)];rfl
   rw[e,List.pairwise_cons,List.pairwise_cons]
   refine⟨fun b hb=>?_,hs⟩
   rcases List.mem_cons.1 hb with rfl|hb
   ·unfold loLe;omega
   ·have:=hs.1 b hb
    unfold loLe at this ⊢
    omega
def ofG (granted:List ScL)(x:ScL):List ScL:=granted.foldl (fun l g=>if g.print=x.print then insG g l else l) [x]
theorem ofG_sorted {granted:List ScL}{x:ScL}:(ofG granted x).Pairwise loLe:=by
 unfold ofG
 have:∀(l:List ScL),l.Pairwise loLe->(granted.foldl (fun l g=>if g.print=x.print then insG g l else l) l).Pairwise loLe:=by
  induction granted with
  | nil=>exact fun _ h=>h
  | cons g gs ih =>
   intro l hl
   rw[List.foldl_cons]
   refine ih _ ?_
   split
   ·exact insG_sorted hl
   ·exact hl
 exact this _ (by simp)
theorem ofG_perm {granted:List ScL}{x:ScL}:(ofG granted x).Perm (x::granted.filter fun g=>decide (g.print=x.print)):=by
 unfold ofG
 have:∀(l:List ScL),(granted.foldl (fun l g=>if g.print=x.print then insG g l else l) l).Perm (l++granted.filter fun g=>decide (g.print=x.print)):=by
  induction granted with
  | nil=>exact fun l=>by simp
  | cons g gs ih =>
   intro l
   rw[List.foldl_cons,List.filter_cons]
   by_cases c:g.print=x.print
   ·rw[if_pos c,if_pos (by simpa using c)]
    refine (ih _).trans ?_
    refine ((insG_perm g l).append_right _).trans ?_
    rw[List.cons_append]
    exact List.perm_middle.symm
   ·rw[if_neg c,if_neg (by simpa using c)]
    exact ih _
 exact this [x]
def noP:ScP:=⟨[],[],[],[],⟨0,0⟩,0⟩
def homeG (t:ScT)(p:Int):Int:=(t.prints.getD p.toNat noP).land
def grantS (t:ScT)(granted:List ScL)(x:ScL):Bool:=canG t (homeG t x.print) (ofG granted x)
def loansS (t:ScT):List ScL×List Int:=t.loans.foldl (fun s x=>if grantS t s.1 x=true then (s.1++[x],s.2++[0]) else (s.1,s.2++[210])) ([],[])
end Go.Dw
/- SC: chapter 11 with no program in sight: shows: how long, why not, which are kept. -/
namespace Go.Dw
open Go Go.Dx Go.Proofs
structure ScS where
 venue:Int
 print:Int
 pack:Int
 minute:Int
 speed:Int
 worth:Int
def ScSR (_:Heap)(row:List Value)(s:ScS):Prop:=row=[i64 s.venue,i64 s.print,i64 s.pack,i64 s.minute,i64 s.speed,i64 s.worth]
structure ScS.Fit (s:ScS):Prop where
 venue:I64 s.venue
 print:I64 s.print
 pack:I64 s.pack
 minute:I64 s.minute
 speed:I64 s.speed
 worth:I64 s.worth
def noPk:ScPk:=⟨[],[],[],0,0⟩
def venAt (t:ScT)(s:ScS):ScV:=t.venues.getD s.venue.toNat noV
def prAt (t:ScT)(s:ScS):ScP:=t.prints.getD s.print.toNat noP
def pkAt (t:ScT)(s:ScS):ScPk:=t.packs.getD s.pack.toNat noPk
def shownErr (t:ScT)(s:ScS):Int :=
 if s.venue<0\/(t.venues.length:Int)-1<s.venue then 4 else if (s.print = -1 ↔ s.pack = -1) then 2
 else if (s.print ≠ -1/\(s.print<0\/(t.prints.length:Int)-1<s.print))\/(s.pack ≠ -1/\(s.pack<0\/(t.packs.length:Int)-1<s.pack)) then 4
 else if (s.minute<0\/57600<s.minute)\/(s.speed<1\/60<s.speed)\/(s.worth<0\/1000000<s.worth) then 7 else 0
def upS (a b:Int):Int:=(a+b-1) / b
theorem upS_eq {a b:Int}(hb:1<=b):upS a b=(a-1) / b+1:=by
 unfold upS
 rw[show a+b-1=(a-1)+1*b by omega,Int.add_mul_ediv_right _ _ (by omega)]
theorem upS_pos {a b:Int}(ha:1<=a)(hb:1<=b):1<=upS a b:=by
 rw[upS_eq hb]
 have:=Int.ediv_nonneg (show 0<=a-1 by omega) (show 0<=b by omega)
 omega
theorem upS_le {a b:Int}(ha:1<=a)(hb:1<=b):upS a b<=a:=by
 rw[upS_eq hb]
 have:=Int.ediv_le_self b (show 0<=a-1 by omega)
 omega
theorem upS_anti {a b c:Int}(ha:1<=a)(hb:1<=b)(hbc:b<=c):upS a c<=upS a b:=by
 rw[upS_eq hb,upS_eq (by omega)]
 have h1:(a-1) / c<=(a-1) / b:=by
  rw[Int.le_ediv_iff_mul_le (by omega)]
  have h2:=Int.ediv_mul_le (a-1) (show c≠0 by omega)
  have h3:(a-1) / c*b<=(a-1) / c*c:=Int.mul_le_mul_of_nonneg_left hbc (Int.ediv_nonneg (by omega) (by omega))
  omega
 omega
theorem upS_mono {a a' b:Int}(hb:1<=b)(h:a<=a'):upS a b<=upS a' b:=by
 unfold upS
 exact Int.ediv_le_ediv (by omega) (by omega)
theorem upS_up {a b:Int}(hb:1<=b):upS (upS a b) 60=upS a (60*b):=by
 rw[upS_eq (show (1:Int)<=60 by decide),upS_eq hb,upS_eq (show 1<=60*b by omega),show (a-1) / b+1-1=(a-1) / b by omega,Int.ediv_ediv_of_nonneg (by omega),Int.mul_comm]
def secsS (l:List Int)(speed:Int):Int:=(l.map fun n=>upS n speed).sum
def longS (t:ScT)(s:ScS):Int :=
 if 0<=s.pack then upS (upS (pkAt t s).frames s.speed) 60
 else if (venAt t s).proj<2 then upS (secsS (prAt t s).reels s.speed) 60+(venAt t s).change*(((prAt t s).reels.length:Int)-1) else upS (secsS (prAt t s).reels s.speed) 60
def inSp (s all:Sp):Prop:=all.lo<=s.lo/\s.hi<=all.hi
instance (s all:Sp):Decidable (inSp s all):=inferInstanceAs (Decidable (_/\_))
def endS (t:ScT)(s:ScS):Int:=s.minute+longS t s
def daysS (t:ScT)(s:ScS):Sp:=⟨t.first+s.minute / 1440,t.first+(endS t s-1) / 1440⟩
def workS (t:ScT)(s:ScS):List UInt8:=if 0<=s.print then (prAt t s).work else (pkAt t s).work
def versS (t:ScT)(s:ScS):List UInt8:=if 0<=s.print then (prAt t s).version else (pkAt t s).version
def rightB (t:ScT)(s:ScS):Bool:=t.rights.any fun r=>decide (r.work=workS t s/\(r.version=[]\/r.version=versS t s)/\r.land=(venAt t s).land/\inSp (daysS t s) r.days)
def hereB (t:ScT)(s:ScS):Bool:=(loansS t).1.any fun l=>decide (l.print=s.print/\l.venue=s.venue/\inSp (daysS t s) l.days)
def filmS (t:ScT)(s:ScS):Int :=
 if hereB t s=false then 212 else if (venAt t s).proj=0\/¬((venAt t s).speeds.lo<=s.speed/\s.speed<=(venAt t s).speeds.hi)\/¬((prAt t s).speeds.lo<=s.speed/\s.speed<=(prAt t s).speeds.hi) then 215
 else if ((prAt t s).reels.any fun n=>decide ((venAt t s).spool<n))=true then 216 else 0
def keyB (t:ScT)(s:ScS):Bool:=t.keys.any fun k=>decide (k.pack=s.pack/\k.venue=s.venue/\inSp ⟨s.minute,endS t s⟩ k.window)
def digiS (t:ScT)(s:ScS):Int :=
 if (venAt t s).digital=false then 213 else if keyB t s=false then 214 else if s.speed≠(pkAt t s).speed then 215 else 0
def whyS (t:ScT)(s:ScS):Int:=if rightB t s=false then 211 else if 0<=s.print then filmS t s else digiS t s
def overS (t:ScT)(s:ScS):Int:=endS t s+(venAt t s).turn
def distB (t:ScT)(a b:ScS):Bool:=decide (a.venue=b.venue/\a.minute<overS t b/\b.minute<overS t a)
def busyS (t:ScT)(kept:List ScS)(s:ScS):Int:=if whyS t s≠0 then whyS t s else if (kept.any fun k=>distB t k s)=true then 217 else 0
def playS (t:ScT)(l:List ScS):List ScS×List Int:=l.foldl (fun p s=>(if busyS t p.1 s=0 then p.1++[s] else p.1,p.2++[busyS t p.1 s])) ([],[])
def listedS (t:ScT)(l:List ScS):Int:=if errSc t≠0 then errSc t else if 40<l.length then 3 else match l.find? fun s=>decide (shownErr t s≠0) with|some s=>shownErr t s|none=>0
theorem snocInd {α:Type}{p:List α->Prop}(h0:p [])(h1:∀l x,p l->p (l++[x]))(l:List α):p l:=by
 have:∀r:List α,p r.reverse:=fun r=>by
  induction r with
  | nil=>exact h0
  | cons x r ih=>rw[List.reverse_cons];exact h1 _ x ih
 have h:=this l.reverse
 rwa [List.reverse_reverse] at h
theorem playS_snoc (t:ScT)(l:List ScS)(s:ScS):playS t (l++[s])=(if busyS t (playS t l).1 s=0 then (playS t l).1++[s] else (playS t l).1,(playS t l).2++[busyS t (playS t l).1 s]):=by
 unfold playS
 rw[List.foldl_append];rfl
theorem play_len (t:ScT)(l:List ScS):(playS t l).2.length=l.length/\(playS t l).1.length<=l.length/\∀s∈(playS t l).1,s∈l/\whyS t s=0:=by
 refine snocInd (p:=fun l=>(playS t l).2.length=l.length/\(playS t l).1.length<=l.length/\∀s∈(playS t l).1,s∈l/\whyS t s=0) ⟨rfl,Nat.le_refl _,fun _ h=>nomatch h⟩ (fun l s ih=>?_) l
 obtain⟨i1,i2,i3⟩:=ih
 rw[playS_snoc]
 refine⟨by simp[i1],?_,fun x hx=>?_⟩
 ·simp only[List.length_append,List.length_singleton]
  split
  ·simp only[List.length_append,List.length_singleton];omega
  ·omega
 ·simp only at hx
  split at hx
  ·rename_i hb
   rcases List.mem_append.1 hx with g|g
   ·exact⟨List.mem_append_left _ (i3 x g).1,(i3 x g).2⟩
   ·rw[List.mem_singleton.1 g]
    refine⟨by simp,?_⟩
    unfold busyS at hb
    split at hb
    ·rename_i h1;exact absurd hb h1
    ·rename_i h1;exact Classical.byContradiction h1
  ·exact⟨List.mem_append_left _ (i3 x hx).1,(i3 x hx).2⟩
theorem play_prefix (t:ScT)(l:List ScS):∀n,(playS t (l.take n)).2=(playS t l).2.take n:=by
 refine snocInd (p:=fun l=>∀n,(playS t (l.take n)).2=(playS t l).2.take n) (fun n=>by simp[playS]) (fun l s ih n=>?_) l
 obtain⟨i1,_,_⟩:=play_len t l
 by_cases h:n<=l.length
 ·rw[List.take_append_of_le_length h,ih n,playS_snoc,List.take_append_of_le_length (by omega)]
 ·have e1:(l++[s]).take n=l++[s]:=List.take_of_length_le (by simp;omega)
  obtain⟨i2,_,_⟩:=play_len t (l++[s])
  rw[e1,List.take_of_length_le (by rw[i2];simp;omega)]
theorem busy_zero {t:ScT}{kept:List ScS}{s:ScS}:busyS t kept s=0 ↔ whyS t s=0/\∀k∈kept,distB t k s=false:=by
 unfold busyS
 constructor
 ·intro h
  split at h
  ·rename_i h1;exact absurd h h1
  ·rename_i h1
   split at h
   ·cases h
   ·rename_i h2
    refine⟨Classical.byContradiction h1,fun k hk=>?_⟩
    cases hd:distB t k s
    ·rfl
    ·exact absurd (List.any_eq_true.2 ⟨k,hk,hd⟩) h2
 ·rintro⟨h1,h2⟩
  rw[if_neg (fun h=>h h1),if_neg fun h=>?_]
  obtain⟨k,hk,hd⟩:=List.any_eq_true.1 h
  rw[h2 k hk] at hd
  cases hd
theorem play_kept (t:ScT)(l:List ScS):(∀s∈(playS t l).1,whyS t s=0)/\(playS t l).1.Pairwise fun a b=>distB t a b=false:=by
 refine snocInd (p:=fun l=>(∀s∈(playS t l).1,whyS t s=0)/\(playS t l).1.Pairwise fun a b=>distB t a b=false) ⟨(fun _ h=>nomatch h),.nil⟩ (fun l s ih=>?_) l
 obtain⟨i1,i2⟩:=ih
 rw[playS_snoc]
 simp only
 split
 ·rename_i h
  obtain⟨h1,h2⟩:=busy_zero.1 h
  refine⟨fun x hx=>?_,List.pairwise_append.2 ⟨i2,by simp,fun a ha b hb=>?_⟩⟩
  ·rcases List.mem_append.1 hx with g|g
   ·exact i1 x g
   ·rw[List.mem_singleton.1 g];exact h1
  ·rw[List.mem_singleton.1 hb];exact h2 a ha
 ·exact⟨i1,i2⟩
theorem play_all (t:ScT)(l:List ScS)(h1:∀s∈l,whyS t s=0)(h2:l.Pairwise fun a b=>distB t a b=false):(playS t l).1=l:=by
 refine snocInd (p:=fun l=>(∀s∈l,whyS t s=0)->(l.Pairwise fun a b=>distB t a b=false)->(playS t l).1=l) (fun _ _=>rfl) (fun l s ih h1 h2=>?_) l h1 h2
 rw[List.pairwise_append] at h2
 have e:=ih (fun x hx=>h1 x (List.mem_append_left _ hx)) h2.1
 rw[playS_snoc]
 simp only
 rw[e,if_pos (busy_zero.2 ⟨h1 s (by simp),fun k hk=>h2.2.2 k hk s (by simp)⟩)]
theorem play_again (t:ScT)(l:List ScS):(playS t (playS t l).1).1=(playS t l).1:=play_all t _ (play_kept t l).1 (play_kept t l).2
theorem distB_comm (t:ScT)(a b:ScS):distB t a b=distB t b a:=by
 unfold distB
 rw[decide_eq_decide]
 constructor <;> rintro⟨h1,h2,h3⟩ <;> exact⟨h1.symm,h3,h2⟩
end Go.Dw
/- SD: chapter 11 with no program in sight: what is right with a task; how long shows take. -/
namespace Go.Dw
open Go Go.Dx Go.Proofs
theorem goNm_e {α:Type}{nm:α->List UInt8}{wrong:α->Int}:∀{l:List α}{i:Nat}{b:List (List UInt8)}{x:Nat×Int},goNm nm wrong i b l=some x->x.2≠0
 | [],_,_,_,h=>nomatch h
 | a::l,i,b,x,h=>by
  rw[goNm] at h
  split at h
  ·rename_i h1;cases h;exact h1
  ·split at h
   ·rename_i h1;cases h;exact h1
   ·exact goNm_e h
theorem goNm_none {α:Type}{nm:α->List UInt8}{wrong:α->Int}:∀{l:List α}{i:Nat}{b:List (List UInt8)},goNm nm wrong i b l=none->∀x∈l,wrong x=0
 | [],_,_,_,_,hx=>nomatch hx
 | a::l,i,b,h,x,hx=>by
  rw[goNm] at h
  split at h
  ·cases h
  ·split at h
   ·cases h
   ·rename_i h1
    rcases List.mem_cons.1 hx with rfl|g
    ·exact Classical.not_not.1 h1
    ·exact goNm_none h x g
theorem goEa_e {α:Type}{wrong:α->Int}:∀{l:List α}{i:Nat}{x:Nat×Int},goEa wrong i l=some x->x.2≠0
 | [],_,_,h=>nomatch h
 | a::l,i,x,h=>by
  rw[goEa] at h
  split at h
  ·rename_i h1;cases h;exact h1
  ·exact goEa_e h
theorem goEa_none {α:Type}{wrong:α->Int}:∀{l:List α}{i:Nat},goEa wrong i l=none->∀x∈l,wrong x=0
 | [],_,_,_,hx=>nomatch hx
 | a::l,i,h,x,hx=>by
  rw[goEa] at h
  split at h
  ·cases h
  ·rename_i h1
   rcases List.mem_cons.1 hx with rfl|g
   ·exact Classical.not_not.1 h1
   ·exact goEa_none h x g
theorem orE_zero {part:Int}{o:Option (Nat×Int)}{x:Int×Int×Int}(ho:∀y,o=some y->y.2≠0)(h:(orE part o x).2.2=0):o=none/\x.2.2=0:=by
 cases o with
 | none=>exact⟨rfl,h⟩
 | some y=>exact absurd h (ho y rfl)
structure ScOk (t:ScT):Prop where
 first:0<=t.first/\t.first<=80000
 lands:1<=t.lands.length/\t.lands.length<=8
 venues1:1<=t.venues.length/\t.venues.length<=8
 rights1:t.rights.length<=30
 prints1:t.prints.length<=12
 packs1:t.packs.length<=12
 keys1:t.keys.length<=30
 loans1:t.loans.length<=30
 travel:travelErr t=0
 venues:∀v∈t.venues,venueErr t v=0
 rights:∀r∈t.rights,rightErr t r=0
 prints:∀p∈t.prints,printErr t p=0
 packs:∀p∈t.packs,packErr p=0
 keys:∀k∈t.keys,keyErr t k=0
 loans:∀l∈t.loans,loanErr t l=0
theorem sc_ok {t:ScT}(h:errSc t=0):ScOk t:=by
 unfold errSc checkSc at h
 split at h
 ·cases h
 rename_i h1
 split at h
 ·cases h
 rename_i h2
 obtain⟨_,h⟩:=orE_zero (fun _=>goNm_e) h
 split at h
 ·rename_i h3;exact absurd h h3
 rename_i h3
 obtain⟨a3,h⟩:=orE_zero (fun _=>goNm_e) h
 obtain⟨a4,h⟩:=orE_zero (fun _=>goEa_e) h
 obtain⟨a5,h⟩:=orE_zero (fun _=>goNm_e) h
 obtain⟨a6,h⟩:=orE_zero (fun _=>goNm_e) h
 obtain⟨a7,h⟩:=orE_zero (fun _=>goEa_e) h
 obtain⟨a8,h⟩:=orE_zero (fun _=>goEa_e) h
 exact⟨by omega,by omega,by omega,by omega,by omega,by omega,by omega,by omega,Classical.not_not.1 h3,goNm_none a3,goEa_none a4,goNm_none a5,goNm_none a6,goEa_none a7,goEa_none a8⟩
theorem odd_ok {s:Sp}{lo hi:Int}(h:oddS s lo hi=0):lo<=s.lo/\s.lo<=s.hi/\s.hi<=hi:=by
 unfold oddS at h
 split at h
 ·cases h
 split at h
 ·cases h
 omega
theorem venue_ok {t:ScT}{v:ScV}(h:venueErr t v=0):(0<=v.land/\v.land<t.lands.length)/\(0<=v.proj/\v.proj<=2)/\(0<=v.change/\v.change<=60)/\(0<=v.turn/\v.turn<=60)/\(1<=v.spool/\v.spool<=200000)/\oddS v.speeds 1 60=0:=by
 unfold venueErr at h
 split at h
 ·cases h
 rename_i ha
 unfold abroad at ha
 split at h
 ·cases h
 exact⟨by omega,by omega,by omega,by omega,by omega,h⟩
theorem print_ok {t:ScT}{p:ScP}(h:printErr t p=0):(1<=p.reels.length/\p.reels.length<=12)/\(∀n∈p.reels,1<=n/\n<=200000)/\oddS p.speeds 1 60=0/\(0<=p.land/\p.land<t.lands.length):=by
 unfold printErr at h
 split at h
 ·cases h
 split at h
 ·cases h
 split at h
 ·cases h
 rename_i h3
 split at h
 ·rename_i h4;exact absurd h h4
 rename_i h4
 split at h
 ·cases h
 rename_i ha
 unfold abroad at ha
 refine⟨by omega,fun n hn=>?_,Classical.not_not.1 h4,by omega⟩
 have h5:(p.reels.any fun n=>decide (n<1\/200000<n))=false:=by
  cases hq:p.reels.any fun n=>decide (n<1\/200000<n)
  ·rfl
  ·exact absurd hq h3
 rw[List.any_eq_false] at h5
 have:=h5 n hn
 simp only[decide_eq_true_eq] at this
 omega
theorem pack_ok {p:ScPk}(h:packErr p=0):(1<=p.frames/\p.frames<=2400000)/\(1<=p.speed/\p.speed<=60):=by
 unfold packErr at h
 split at h
 ·cases h
 split at h
 ·cases h
 omega
theorem loan_ok {t:ScT}{l:ScL}(h:loanErr t l=0):(0<=l.print/\l.print<t.prints.length)/\(0<=l.venue/\l.venue<t.venues.length)/\oddS l.days 0 80000=0:=by
 unfold loanErr at h
 split at h
 ·cases h
 exact⟨by omega,by omega,h⟩
theorem shown_ok {t:ScT}{s:ScS}(h:shownErr t s=0):(0<=s.venue/\s.venue<t.venues.length)/\((0<=s.print/\s.print<t.prints.length/\s.pack = -1)\/(0<=s.pack/\s.pack<t.packs.length/\s.print = -1))/\(0<=s.minute/\s.minute<=57600)/\(1<=s.speed/\s.speed<=60)/\(0<=s.worth/\s.worth<=1000000):=by
 unfold shownErr at h
 split at h
 ·cases h
 split at h
 ·cases h
 rename_i h2
 split at h
 ·cases h
 split at h
 ·cases h
 refine⟨by omega,?_,by omega,by omega,by omega⟩
 by_cases c:s.print = -1
 ·by_cases d:s.pack = -1
  ·exact absurd ⟨fun _=>d,fun _=>c⟩ h2
  ·exact .inr ⟨by omega,by omega,c⟩
 ·by_cases d:s.pack = -1
  ·exact .inl ⟨by omega,by omega,d⟩
  ·exact absurd ⟨fun e=>absurd e c,fun e=>absurd e d⟩ h2
theorem getD_mem {α:Type}{l:List α}{n:Int}{d:α}(h0:0<=n)(h1:n<l.length):l.getD n.toNat d∈l:=by
 have h:n.toNat<l.length:=by omega
 rw[List.getD_eq_getElem?_getD,List.getElem?_eq_getElem h]
 exact List.getElem_mem h
theorem ven_ok {t:ScT}(hO:ScOk t){s:ScS}(h:shownErr t s=0):venueErr t (venAt t s)=0:=hO.venues _ (getD_mem (shown_ok h).1.1 (shown_ok h).1.2)
theorem pr_ok {t:ScT}(hO:ScOk t){s:ScS}(h:shownErr t s=0)(hp:s.pack = -1):printErr t (prAt t s)=0:=by
 rcases (shown_ok h).2.1 with ⟨h1,h2,_⟩|⟨h1,_,_⟩
 ·exact hO.prints _ (getD_mem h1 h2)
 ·omega
theorem pk_ok {t:ScT}(hO:ScOk t){s:ScS}(h:shownErr t s=0)(hp:0<=s.pack):packErr (pkAt t s)=0:=by
 rcases (shown_ok h).2.1 with ⟨_,_,h1⟩|⟨h1,h2,_⟩
 ·omega
 ·exact hO.packs _ (getD_mem h1 h2)
theorem secs_rng {l:List Int}{speed:Int}(hs:1<=speed)(hl:∀n∈l,1<=n/\n<=200000):(l.length:Int)<=secsS l speed/\secsS l speed<=200000*l.length:=by
 unfold secsS
 induction l with
 | nil=>exact⟨Int.le_refl _,Int.le_refl _⟩
 | cons a l ih =>
  have h1:=ih fun n hn=>hl n (List.mem_cons_of_mem _ hn)
  have h2:=hl a List.mem_cons_self
  have h3:=upS_pos h2.1 hs
  have h4:=upS_le h2.1 hs
  simp only[List.map_cons,List.sum_cons,List.length_cons]
  omega
theorem secs_anti {l:List Int}{a b:Int}(ha:1<=a)(hab:a<=b)(hl:∀n∈l,1<=n/\n<=200000):secsS l b<=secsS l a:=by
 unfold secsS
 induction l with
 | nil=>exact Int.le_refl _
 | cons x l ih =>
  have h1:=ih fun n hn=>hl n (List.mem_cons_of_mem _ hn)
  have h2:=upS_anti (hl x List.mem_cons_self).1 ha hab
  simp only[List.map_cons,List.sum_cons]
  omega
theorem upS_mul {a b:Int}(hb:1<=b):a<=b*upS a b:=by
 unfold upS
 have h1:=Int.emod_add_mul_ediv (a+b-1) b
 have h2:=Int.emod_lt_of_pos (a+b-1) (show 0<b by omega)
 omega
theorem long_rng {t:ScT}(hO:ScOk t){s:ScS}(h:shownErr t s=0):1<=longS t s/\longS t s<=100000:=by
 obtain⟨_,hpp,_,hsp,_⟩:=shown_ok h
 obtain⟨_,_,hch,_⟩:=venue_ok (ven_ok hO h)
 unfold longS
 split
 ·rename_i hp
  obtain⟨h1,_⟩:=pack_ok (pk_ok hO h hp)
  have h2:=upS_pos h1.1 hsp.1
  have h3:=upS_le h1.1 hsp.1
  have h4:=upS_pos h2 (show (1:Int)<=60 by decide)
  refine⟨h4,?_⟩
  rw[upS_eq (by decide)]
  omega
 ·rename_i hp
  have hp':s.pack = -1:=by omega
  obtain⟨h1,h2,_⟩:=print_ok (pr_ok hO h hp')
  have h3:=secs_rng hsp.1 h2
  have h4:=upS_pos (show 1<=secsS (prAt t s).reels s.speed by omega) (show (1:Int)<=60 by decide)
  have h5:upS (secsS (prAt t s).reels s.speed) 60<=40000:=by rw[upS_eq (by decide)];omega
  have h6:0<=(venAt t s).change*(((prAt t s).reels.length:Int)-1):=Int.mul_nonneg hch.1 (by omega)
  have h7:(venAt t s).change*(((prAt t s).reels.length:Int)-1)<=60*11:=Int.mul_le_mul hch.2 (by omega) (by omega) (by decide)
  split <;> omega
theorem long_speed {t:ScT}(hO:ScOk t){s:ScS}(h:shownErr t s=0){v:Int}(hv:s.speed<=v):longS t ⟨s.venue,s.print,s.pack,s.minute,v,s.worth⟩<=longS t s:=by
 obtain⟨_,hpp,_,hsp,_⟩:=shown_ok h
 have e1:prAt t ⟨s.venue,s.print,s.pack,s.minute,v,s.worth⟩=prAt t s:=rfl
 have e2:venAt t ⟨s.venue,s.print,s.pack,s.minute,v,s.worth⟩=venAt t s:=rfl
 have e3:pkAt t ⟨s.venue,s.print,s.pack,s.minute,v,s.worth⟩=pkAt t s:=rfl
 unfold longS
 rw[e1,e2,e3]
 simp only
 by_cases hp:0<=s.pack
 ·rw[if_pos hp,if_pos hp]
  obtain⟨h1,_⟩:=pack_ok (pk_ok hO h hp)
  exact upS_mono (by decide) (upS_anti h1.1 hsp.1 hv)
 ·rw[if_neg hp,if_neg hp]
  have hp':s.pack = -1:=by omega
  obtain⟨_,h2,_⟩:=print_ok (pr_ok hO h hp')
  have h3:=upS_mono (show (1:Int)<=60 by decide) (secs_anti hsp.1 hv h2)
  split <;> omega
end Go.Dw
/- SN: chapter 11 with no program in sight: loans as the reference looks at them: the first way, the last way, and each between. -/
namespace Go.Dw
open Go Go.Dx Go.Proofs
def vlG (t:ScT)(y:ScL):Int:=venLand t y.venue
def badP (t:ScT)(a b:ScL):Prop:=trv t (vlG t a) (vlG t b)<0\/b.days.lo-a.days.hi<=trv t (vlG t a) (vlG t b)
instance (t:ScT)(a b:ScL):Decidable (badP t a b):=inferInstanceAs (Decidable (_\/_))
def chainG (t:ScT):ScL->List ScL->Bool
 | _,[]=>true
 | a,b::l=>!decide (badP t a b) && chainG t b l
def lastG:ScL->List ScL->ScL
 | a,[]=>a
 | _,b::l=>lastG b l
theorem goG_chain {t:ScT}:∀{l:List ScL}{a:ScL},goG t (vlG t a) (some a.days.hi) l=if chainG t a l=true then some (vlG t (lastG a l)) else none
 | [],a=>rfl
 | b::l,a=>by
  have hs:stopG t (vlG t a) (some a.days.hi) b=decide (badP t a b):=by
   show (decide (trv t (vlG t a) (vlG t b)<0) || decide (b.days.lo-a.days.hi<=trv t (vlG t a) (vlG t b)))=_
   rw[Bool.eq_iff_iff,Bool.or_eq_true,decide_eq_true_iff,decide_eq_true_iff,decide_eq_true_iff]
   exact Iff.rfl
  rw[goG,hs,chainG]
  by_cases c:badP t a b
  ·rw[decide_eq_true c,if_pos rfl];rfl
  ·rw[decide_eq_false c,if_neg (by decide)]
   exact goG_chain (l:=l) (a:=b)
theorem canG_chain {t:ScT}{home:Int}{a:ScL}{l:List ScL}:canG t home (a::l)=(decide (0<=trv t home (vlG t a)) && chainG t a l && decide (0<=trv t (vlG t (lastG a l)) home)):=by
 unfold canG
 rw[goG]
 have hs:stopG t home none a=decide (trv t home (vlG t a)<0):=by unfold stopG vlG;rw[Bool.or_false]
 rw[hs]
 by_cases c:trv t home (vlG t a)<0
 ·rw[decide_eq_true c,if_pos rfl,decide_eq_false (show ¬0<=trv t home (vlG t a) by omega)];rfl
 ·rw[decide_eq_false c,if_neg (by decide),decide_eq_true (show 0<=trv t home (vlG t a) by omega),Bool.true_and]
  have:=goG_chain (t:=t) (a:=a) (l:=l)
  rw[show goG t (venLand t a.venue) (some a.days.hi) l=_ from this]
  by_cases d:chainG t a l=true
  ·rw[if_pos d,d];rfl
  ·rw[if_neg d]
   rw[Bool.not_eq_true] at d
   rw[d];rfl
theorem lastG_eq:∀{a:ScL}{l:List ScL},lastG a l=(a::l)[l.length]'(by simp)
 | _,[]=>rfl
 | a,b::l=>by
  rw[lastG,lastG_eq (a:=b) (l:=l)]
  simp
theorem chainG_iff {t:ScT}:∀{a:ScL}{l:List ScL},chainG t a l=true ↔ ∀j (hj:j+1<(a::l).length),¬badP t ((a::l)[j]'(by omega)) (a::l)[j+1]
 | a,[]=>by
  refine⟨fun _ j hj=>?_,fun _=>rfl⟩
  simp at hj
 | a,b::l=>by
  rw[chainG,Bool.and_eq_true,chainG_iff (a:=b) (l:=l)]
  constructor
  ·rintro⟨h1,h2⟩ j hj
   cases j with
   | zero=>simpa using h1
   | succ j=>exact h2 j (by simpa using hj)
  ·intro h
   refine⟨by simpa using h 0 (by simp),fun j hj=>?_⟩
   exact h (j+1) (by simpa using hj)
def awayG (t:ScT)(home:Int)(L:List ScL):Prop:=∃h:0<L.length,(trv t home (vlG t L[0])<0\/trv t (vlG t (L[L.length-1]'(by omega))) home<0)\/∃j,∃hj:j+1<L.length,badP t (L[j]'(by omega)) L[j+1]
theorem away_iff {t:ScT}{home:Int}{L:List ScL}(hL:0<L.length):canG t home L=true ↔ ¬awayG t home L:=by
 cases L with
 | nil=>simp at hL
 | cons a l =>
  rw[canG_chain,Bool.and_eq_true,Bool.and_eq_true,chainG_iff,lastG_eq]
  simp only[decide_eq_true_eq]
  unfold awayG
  constructor
  ·rintro⟨⟨h1,h2⟩,h3⟩ ⟨_,(g|g)|⟨j,hj,g⟩⟩
   ·simp at g;omega
   ·simp at g;omega
   ·exact h2 j hj g
  ·intro h
   refine⟨⟨?_,fun j hj g=>h ⟨hL,.inr ⟨j,hj,g⟩⟩⟩,?_⟩
   ·refine Int.not_lt.1 fun g=>h ⟨hL,.inl (.inl ?_)⟩
    simpa using g
   ·refine Int.not_lt.1 fun g=>h ⟨hL,.inl (.inr ?_)⟩
    simpa using g
theorem insG_at {g:ScL}:∀{L:List ScL}{k:Nat},k<=L.length->(∀j (hj:j<L.length),j<k->L[j].days.lo<g.days.lo)->(∀h:k<L.length,¬L[k].days.lo<g.days.lo)->insG g L=L.take k++g::L.drop k
 | [],k,hk,_,_=>by
  have:k=0:=by simpa using hk
  subst this;rfl
 | a::L,0,_,_,h=>by
  have h0:=h (by simp)
  unfold insG
  rw[List.takeWhile_cons_of_neg (by simpa using h0),List.dropWhile_cons_of_neg (by simpa using h0)]
  rfl
 | a::L,k+1,hk,h1,h2=>by
  have h0:=h1 0 (by simp) (by omega)
  have ih:=insG_at (g:=g) (L:=L) (k:=k) (by simpa using hk) (fun j hj hjk=>h1 (j+1) (by simpa using hj) (by omega)) (fun h=>h2 (by simpa using h))
  unfold insG at ih ⊢
  rw[List.takeWhile_cons_of_pos (by simpa using h0),List.dropWhile_cons_of_pos (by simpa using h0)]
  rw[List.cons_append,ih]
  rfl
def ofGk (granted:List ScL)(x:ScL)(k:Nat):List ScL:=ofG (granted.take k) x
theorem ofGk_succ {granted:List ScL}{x:ScL}{k:Nat}(hk:k<granted.length):ofGk granted x (k+1)=if granted[k].print=x.print then insG granted[k] (ofGk granted x k) else ofGk granted x k:=by
 unfold ofGk ofG
 have:granted.take (k+1)=granted.take k++[granted[k]]:=by rw[List.take_add_one,List.getElem?_eq_getElem hk];rfl
 rw[this,List.foldl_append];rfl
theorem insG_len (g:ScL)(L:List ScL):(insG g L).length=L.length+1:=(insG_perm g L).length_eq
theorem ofGk_len {granted:List ScL}{x:ScL}:∀{k:Nat},k<=granted.length->1<=(ofGk granted x k).length/\(ofGk granted x k).length<=k+1
 | 0,_=>by unfold ofGk ofG;simp
 | k+1,hk=>by
  have ih:=ofGk_len (granted:=granted) (x:=x) (k:=k) (by omega)
  rw[ofGk_succ (by omega)]
  split
  ·rw[insG_len];omega
  ·omega
theorem ofGk_mem {granted:List ScL}{x:ScL}{k:Nat}:∀y∈ofGk granted x k,y=x\/y∈granted:=fun y hy=>by
 have:=ofG_perm.subset hy
 rcases List.mem_cons.1 this with e|g
 ·exact .inl e
 ·exact .inr (List.mem_of_mem_take (List.mem_filter.1 g).1)
end Go.Dw
/- SR: reading a task of chapter 11. -/
namespace Go.Dw
open Go Go.Dx Go.Proofs
set_option maxRecDepth 100000
section
variable {H:Type}{enc:TypeId×Value->H}{W:World}{cs:List Value}
theorem rd_sp (h:Rd enc Tryz.prog W 49 cs):∃s:Sp,cs=[i64 s.lo,i64 s.hi]/\I64 s.lo/\I64 s.hi:=by
 have cS:Tryz.prog.cellsOf 49=2:=by kernel_rfl
 have c3:Tryz.prog.cellsOf 3=1:=by kernel_rfl
 obtain⟨h1,h2⟩:=rd_struct Tryz.underlying49 h
 rw[cS] at h1
 obtain⟨x0,x1,rfl⟩:∃x0 x1,cs=[x0,x1]:=by
  match cs,h1 with
  | [x0,x1],_=>exact⟨x0,x1,rfl⟩
 have f0:Rd enc Tryz.prog W 3 (([x0,x1].drop 0).take (Tryz.prog.cellsOf 3)):=h2 0 _ rfl
 have f1:Rd enc Tryz.prog W 3 (([x0,x1].drop 1).take (Tryz.prog.cellsOf 3)):=h2 1 _ rfl
 rw[c3] at f0 f1
 obtain⟨n0,e0,l0⟩:=rd_int Tryz.underlying3 f0
 obtain⟨n1,e1,l1⟩:=rd_int Tryz.underlying3 f1
 simp at e0 e1
 subst e0;subst e1
 exact⟨⟨n0,n1⟩,rfl,l0,l1⟩
theorem rd_strs (h:Rd enc Tryz.prog W 22 cs):∃v a l cap,cs=[v]/\okv W.heap.size v=true/\nz v=.slice a l.length cap/\StrsAt (ro W) a l/\Len l/\∀s∈l,Len s :=
 rd_list (encA:=str) (Fit:=fun s:List UInt8=>Len s) Tryz.underlying22 (by kernel_rfl) (fun row hr=>by
  obtain⟨n,h1,h2⟩:=rd_string Tryz.underlying9 hr
  exact⟨n,_,h1,rfl,rfl,h2⟩) h
theorem rd_strsP (h:Rd enc Tryz.prog W 22 cs):∃v a l cap,cs=[v]/\okv W.heap.size v=true/\nz v=.slice a l.length cap/\ParL str (ro W) a l cap/\Len l/\∀s∈l,Len s:=by
 obtain⟨v,a,l,cap,h1,h2,h3,h4,h5,h6⟩:=rd_strs h
 obtain⟨v',a',len',cap',g1,g2,g3⟩:=rd_sliceC Tryz.underlying22 h
 have c9:Tryz.prog.cellsOf 9=1:=by kernel_rfl
 obtain⟨v2,a2,len2,cap2,k1,_,k3,_,k5⟩:=rd_slice Tryz.underlying22 (by omega) h
 rw[h1] at g1 k1
 simp only[List.cons.injEq,and_true] at g1 k1
 subst g1;subst k1
 rw[h3] at g2 k3
 simp only[Value.slice.injEq] at g2 k3
 obtain⟨rfl,rfl,rfl⟩:=g2
 obtain⟨rfl,rfl,rfl⟩:=k3
 refine⟨v,a,l,cap,h1,h2,h3,⟨h4,g3,fun hn=>?_⟩,h5,h6⟩
 obtain⟨b,o,ha,_⟩:=k5 0 (List.length_pos_iff.2 hn)
 exact⟨b,o,ha⟩
theorem rd_line (h:Rd enc Tryz.prog W 52 cs):∃l:List Int,cs.all (okv W.heap.size)=true/\ScTvR (ro W) (cs.map nz) l/\(Len l/\∀n∈l,I64 n):=by
 obtain⟨v,a,l,cap,e,ok,hz,hI,hL,hF⟩:=rd_ints Tryz.underlying52 Tryz.underlying3 (by kernel_rfl) h
 subst e
 exact⟨l,by simp[ok],⟨a,cap,by simp only[List.map_cons,List.map_nil,hz],hI⟩,hL,hF⟩
theorem rd_venue (h:Rd enc Tryz.prog W 54 cs):∃v:ScV,cs.all (okv W.heap.size)=true/\ScVR (ro W) (cs.map nz) v/\v.Fit:=by
 have cS:Tryz.prog.cellsOf 54=9:=by kernel_rfl
 obtain⟨h1,h2⟩:=rd_struct Tryz.underlying54 h
 rw[cS] at h1
 obtain⟨x0,x1,x2,x3,x4,x5,x6,x7,x8,rfl⟩:∃x0 x1 x2 x3 x4 x5 x6 x7 x8,cs=[x0,x1,x2,x3,x4,x5,x6,x7,x8]:=by
  match cs,h1 with
  | [x0,x1,x2,x3,x4,x5,x6,x7,x8],_=>exact⟨x0,x1,x2,x3,x4,x5,x6,x7,x8,rfl⟩
 have c0:Tryz.prog.cellsOf 9=1:=by kernel_rfl
 have f0:Rd enc Tryz.prog W 9 (([x0,x1,x2,x3,x4,x5,x6,x7,x8].drop 0).take (Tryz.prog.cellsOf 9)):=h2 0 _ rfl
 rw[c0] at f0
 obtain⟨n0,e0,l0⟩:=rd_string Tryz.underlying9 f0
 have c1:Tryz.prog.cellsOf 3=1:=by kernel_rfl
 have f1:Rd enc Tryz.prog W 3 (([x0,x1,x2,x3,x4,x5,x6,x7,x8].drop 1).take (Tryz.prog.cellsOf 3)):=h2 1 _ rfl
 rw[c1] at f1
 obtain⟨n1,e1,l1⟩:=rd_int Tryz.underlying3 f1
 have c2:Tryz.prog.cellsOf 3=1:=by kernel_rfl
 have f2:Rd enc Tryz.prog W 3 (([x0,x1,x2,x3,x4,x5,x6,x7,x8].drop 2).take (Tryz.prog.cellsOf 3)):=h2 2 _ rfl
 rw[c2] at f2
 obtain⟨n2,e2,l2⟩:=rd_int Tryz.underlying3 f2
 have c3:Tryz.prog.cellsOf 49=2:=by kernel_rfl
 have f3:Rd enc Tryz.prog W 49 (([x0,x1,x2,x3,x4,x5,x6,x7,x8].drop 3).take (Tryz.prog.cellsOf 49)):=h2 3 _ rfl
 rw[c3] at f3
 obtain⟨n3,e3,l3,m3⟩:=rd_sp f3
 have c4:Tryz.prog.cellsOf 3=1:=by kernel_rfl
 have f4:Rd enc Tryz.prog W 3 (([x0,x1,x2,x3,x4,x5,x6,x7,x8].drop 5).take (Tryz.prog.cellsOf 3)):=h2 4 _ rfl
 rw[c4] at f4
 obtain⟨n4,e4,l4⟩:=rd_int Tryz.underlying3 f4
 have c5:Tryz.prog.cellsOf 3=1:=by kernel_rfl
 have f5:Rd enc Tryz.prog W 3 (([x0,x1,x2,x3,x4,x5,x6,x7,x8].drop 6).take (Tryz.prog.cellsOf 3)):=h2 5 _ rfl
 rw[c5] at f5
 obtain⟨n5,e5,l5⟩:=rd_int Tryz.underlying3 f5
 have c6:Tryz.prog.cellsOf 3=1:=by kernel_rfl
 have f6:Rd enc Tryz.prog W 3 (([x0,x1,x2,x3,x4,x5,x6,x7,x8].drop 7).take (Tryz.prog.cellsOf 3)):=h2 6 _ rfl
 rw[c6] at f6
 obtain⟨n6,e6,l6⟩:=rd_int Tryz.underlying3 f6
 have c7:Tryz.prog.cellsOf 4=1:=by kernel_rfl
 have f7:Rd enc Tryz.prog W 4 (([x0,x1,x2,x3,x4,x5,x6,x7,x8].drop 8).take (Tryz.prog.cellsOf 4)):=h2 7 _ rfl
 rw[c7] at f7
 obtain⟨n7,e7⟩:=rd_bool Tryz.underlying4 f7
 simp at e0 e1 e2 e3 e4 e5 e6 e7
 subst e0
 subst e1
 subst e2
 obtain⟨rfl,rfl⟩:=e3
 subst e4
 subst e5
 subst e6
 subst e7
 refine⟨⟨n0,n1,n2,n3,n4,n5,n6,n7⟩,rfl,rfl,⟨l0,l1,l2,⟨l3,m3⟩,l4,l5,l6⟩⟩
theorem rd_right (h:Rd enc Tryz.prog W 88 cs):∃v:ScR,cs.all (okv W.heap.size)=true/\ScRR (ro W) (cs.map nz) v/\v.Fit:=by
 have cS:Tryz.prog.cellsOf 88=5:=by kernel_rfl
 obtain⟨h1,h2⟩:=rd_struct Tryz.underlying88 h
 rw[cS] at h1
 obtain⟨x0,x1,x2,x3,x4,rfl⟩:∃x0 x1 x2 x3 x4,cs=[x0,x1,x2,x3,x4]:=by
  match cs,h1 with
  | [x0,x1,x2,x3,x4],_=>exact⟨x0,x1,x2,x3,x4,rfl⟩
 have c0:Tryz.prog.cellsOf 9=1:=by kernel_rfl
 have f0:Rd enc Tryz.prog W 9 (([x0,x1,x2,x3,x4].drop 0).take (Tryz.prog.cellsOf 9)):=h2 0 _ rfl
 rw[c0] at f0
 obtain⟨n0,e0,l0⟩:=rd_string Tryz.underlying9 f0
 have c1:Tryz.prog.cellsOf 9=1:=by kernel_rfl
 have f1:Rd enc Tryz.prog W 9 (([x0,x1,x2,x3,x4].drop 1).take (Tryz.prog.cellsOf 9)):=h2 1 _ rfl
 rw[c1] at f1
 obtain⟨n1,e1,l1⟩:=rd_string Tryz.underlying9 f1
 have c2:Tryz.prog.cellsOf 3=1:=by kernel_rfl
 have f2:Rd enc Tryz.prog W 3 (([x0,x1,x2,x3,x4].drop 2).take (Tryz.prog.cellsOf 3)):=h2 2 _ rfl
 rw[c2] at f2
 obtain⟨n2,e2,l2⟩:=rd_int Tryz.underlying3 f2
 have c3:Tryz.prog.cellsOf 49=2:=by kernel_rfl
 have f3:Rd enc Tryz.prog W 49 (([x0,x1,x2,x3,x4].drop 3).take (Tryz.prog.cellsOf 49)):=h2 3 _ rfl
 rw[c3] at f3
 obtain⟨n3,e3,l3,m3⟩:=rd_sp f3
 simp at e0 e1 e2 e3
 subst e0
 subst e1
 subst e2
 obtain⟨rfl,rfl⟩:=e3
 refine⟨⟨n0,n1,n2,n3⟩,rfl,rfl,⟨l0,l1,l2,⟨l3,m3⟩⟩⟩
theorem rd_print (h:Rd enc Tryz.prog W 56 cs):∃v:ScP,cs.all (okv W.heap.size)=true/\ScPR (ro W) (cs.map nz) v/\v.Fit:=by
 have cS:Tryz.prog.cellsOf 56=7:=by kernel_rfl
 obtain⟨h1,h2⟩:=rd_struct Tryz.underlying56 h
 rw[cS] at h1
 obtain⟨x0,x1,x2,x3,x4,x5,x6,rfl⟩:∃x0 x1 x2 x3 x4 x5 x6,cs=[x0,x1,x2,x3,x4,x5,x6]:=by
  match cs,h1 with
  | [x0,x1,x2,x3,x4,x5,x6],_=>exact⟨x0,x1,x2,x3,x4,x5,x6,rfl⟩
 have c0:Tryz.prog.cellsOf 9=1:=by kernel_rfl
 have f0:Rd enc Tryz.prog W 9 (([x0,x1,x2,x3,x4,x5,x6].drop 0).take (Tryz.prog.cellsOf 9)):=h2 0 _ rfl
 rw[c0] at f0
 obtain⟨n0,e0,l0⟩:=rd_string Tryz.underlying9 f0
 have c1:Tryz.prog.cellsOf 9=1:=by kernel_rfl
 have f1:Rd enc Tryz.prog W 9 (([x0,x1,x2,x3,x4,x5,x6].drop 1).take (Tryz.prog.cellsOf 9)):=h2 1 _ rfl
 rw[c1] at f1
 obtain⟨n1,e1,l1⟩:=rd_string Tryz.underlying9 f1
 have c2:Tryz.prog.cellsOf 9=1:=by kernel_rfl
 have f2:Rd enc Tryz.prog W 9 (([x0,x1,x2,x3,x4,x5,x6].drop 2).take (Tryz.prog.cellsOf 9)):=h2 2 _ rfl
 rw[c2] at f2
 obtain⟨n2,e2,l2⟩:=rd_string Tryz.underlying9 f2
 have c3:Tryz.prog.cellsOf 52=1:=by kernel_rfl
 have f3:Rd enc Tryz.prog W 52 (([x0,x1,x2,x3,x4,x5,x6].drop 3).take (Tryz.prog.cellsOf 52)):=h2 3 _ rfl
 rw[c3] at f3
 obtain⟨v3,a3,n3,cap3,e3,ok3,nz3,hI3,hL3,hF3⟩:=rd_ints Tryz.underlying52 Tryz.underlying3 (by kernel_rfl) f3
 have c4:Tryz.prog.cellsOf 49=2:=by kernel_rfl
 have f4:Rd enc Tryz.prog W 49 (([x0,x1,x2,x3,x4,x5,x6].drop 4).take (Tryz.prog.cellsOf 49)):=h2 4 _ rfl
 rw[c4] at f4
 obtain⟨n4,e4,l4,m4⟩:=rd_sp f4
 have c5:Tryz.prog.cellsOf 3=1:=by kernel_rfl
 have f5:Rd enc Tryz.prog W 3 (([x0,x1,x2,x3,x4,x5,x6].drop 6).take (Tryz.prog.cellsOf 3)):=h2 5 _ rfl
 rw[c5] at f5
 obtain⟨n5,e5,l5⟩:=rd_int Tryz.underlying3 f5
 simp at e0 e1 e2 e3 e4 e5
 subst e0
 subst e1
 subst e2
 subst e3
 obtain⟨rfl,rfl⟩:=e4
 subst e5
 refine⟨⟨n0,n1,n2,n3,n4,n5⟩,?_,⟨a3,cap3,?_,hI3⟩,⟨l0,l1,l2,hL3,hF3,⟨l4,m4⟩,l5⟩⟩
 ·simp[ok3]
  try (repeat' constructor)
 ·simp only[List.map_cons,List.map_nil,nz3];rfl
theorem rd_pack (h:Rd enc Tryz.prog W 86 cs):∃v:ScPk,cs.all (okv W.heap.size)=true/\ScPkR (ro W) (cs.map nz) v/\v.Fit:=by
 have cS:Tryz.prog.cellsOf 86=5:=by kernel_rfl
 obtain⟨h1,h2⟩:=rd_struct Tryz.underlying86 h
 rw[cS] at h1
 obtain⟨x0,x1,x2,x3,x4,rfl⟩:∃x0 x1 x2 x3 x4,cs=[x0,x1,x2,x3,x4]:=by
  match cs,h1 with
  | [x0,x1,x2,x3,x4],_=>exact⟨x0,x1,x2,x3,x4,rfl⟩
 have c0:Tryz.prog.cellsOf 9=1:=by kernel_rfl
 have f0:Rd enc Tryz.prog W 9 (([x0,x1,x2,x3,x4].drop 0).take (Tryz.prog.cellsOf 9)):=h2 0 _ rfl
 rw[c0] at f0
 obtain⟨n0,e0,l0⟩:=rd_string Tryz.underlying9 f0
 have c1:Tryz.prog.cellsOf 9=1:=by kernel_rfl
 have f1:Rd enc Tryz.prog W 9 (([x0,x1,x2,x3,x4].drop 1).take (Tryz.prog.cellsOf 9)):=h2 1 _ rfl
 rw[c1] at f1
 obtain⟨n1,e1,l1⟩:=rd_string Tryz.underlying9 f1
 have c2:Tryz.prog.cellsOf 9=1:=by kernel_rfl
 have f2:Rd enc Tryz.prog W 9 (([x0,x1,x2,x3,x4].drop 2).take (Tryz.prog.cellsOf 9)):=h2 2 _ rfl
 rw[c2] at f2
 obtain⟨n2,e2,l2⟩:=rd_string Tryz.underlying9 f2
 have c3:Tryz.prog.cellsOf 3=1:=by kernel_rfl
 have f3:Rd enc Tryz.prog W 3 (([x0,x1,x2,x3,x4].drop 3).take (Tryz.prog.cellsOf 3)):=h2 3 _ rfl
 rw[c3] at f3
 obtain⟨n3,e3,l3⟩:=rd_int Tryz.underlying3 f3
 have c4:Tryz.prog.cellsOf 3=1:=by kernel_rfl
 have f4:Rd enc Tryz.prog W 3 (([x0,x1,x2,x3,x4].drop 4).take (Tryz.prog.cellsOf 3)):=h2 4 _ rfl
 rw[c4] at f4
 obtain⟨n4,e4,l4⟩:=rd_int Tryz.underlying3 f4
 simp at e0 e1 e2 e3 e4
 subst e0
 subst e1
 subst e2
 subst e3
 subst e4
 refine⟨⟨n0,n1,n2,n3,n4⟩,rfl,rfl,⟨l0,l1,l2,l3,l4⟩⟩
theorem rd_key (h:Rd enc Tryz.prog W 90 cs):∃v:ScK,cs.all (okv W.heap.size)=true/\ScKR (ro W) (cs.map nz) v/\v.Fit:=by
 have cS:Tryz.prog.cellsOf 90=4:=by kernel_rfl
 obtain⟨h1,h2⟩:=rd_struct Tryz.underlying90 h
 rw[cS] at h1
 obtain⟨x0,x1,x2,x3,rfl⟩:∃x0 x1 x2 x3,cs=[x0,x1,x2,x3]:=by
  match cs,h1 with
  | [x0,x1,x2,x3],_=>exact⟨x0,x1,x2,x3,rfl⟩
 have c0:Tryz.prog.cellsOf 3=1:=by kernel_rfl
 have f0:Rd enc Tryz.prog W 3 (([x0,x1,x2,x3].drop 0).take (Tryz.prog.cellsOf 3)):=h2 0 _ rfl
 rw[c0] at f0
 obtain⟨n0,e0,l0⟩:=rd_int Tryz.underlying3 f0
 have c1:Tryz.prog.cellsOf 3=1:=by kernel_rfl
 have f1:Rd enc Tryz.prog W 3 (([x0,x1,x2,x3].drop 1).take (Tryz.prog.cellsOf 3)):=h2 1 _ rfl
 rw[c1] at f1
 obtain⟨n1,e1,l1⟩:=rd_int Tryz.underlying3 f1
 have c2:Tryz.prog.cellsOf 49=2:=by kernel_rfl
 have f2:Rd enc Tryz.prog W 49 (([x0,x1,x2,x3].drop 2).take (Tryz.prog.cellsOf 49)):=h2 2 _ rfl
 rw[c2] at f2
 obtain⟨n2,e2,l2,m2⟩:=rd_sp f2
 simp at e0 e1 e2
 subst e0
 subst e1
 obtain⟨rfl,rfl⟩:=e2
 refine⟨⟨n0,n1,n2⟩,rfl,rfl,⟨l0,l1,⟨l2,m2⟩⟩⟩
theorem rd_loan (h:Rd enc Tryz.prog W 51 cs):∃v:ScL,cs.all (okv W.heap.size)=true/\ScLR (ro W) (cs.map nz) v/\v.Fit:=by
 have cS:Tryz.prog.cellsOf 51=4:=by kernel_rfl
 obtain⟨h1,h2⟩:=rd_struct Tryz.underlying51 h
 rw[cS] at h1
 obtain⟨x0,x1,x2,x3,rfl⟩:∃x0 x1 x2 x3,cs=[x0,x1,x2,x3]:=by
  match cs,h1 with
  | [x0,x1,x2,x3],_=>exact⟨x0,x1,x2,x3,rfl⟩
 have c0:Tryz.prog.cellsOf 3=1:=by kernel_rfl
 have f0:Rd enc Tryz.prog W 3 (([x0,x1,x2,x3].drop 0).take (Tryz.prog.cellsOf 3)):=h2 0 _ rfl
 rw[c0] at f0
 obtain⟨n0,e0,l0⟩:=rd_int Tryz.underlying3 f0
 have c1:Tryz.prog.cellsOf 3=1:=by kernel_rfl
 have f1:Rd enc Tryz.prog W 3 (([x0,x1,x2,x3].drop 1).take (Tryz.prog.cellsOf 3)):=h2 1 _ rfl
 rw[c1] at f1
 obtain⟨n1,e1,l1⟩:=rd_int Tryz.underlying3 f1
 have c2:Tryz.prog.cellsOf 49=2:=by kernel_rfl
 have f2:Rd enc Tryz.prog W 49 (([x0,x1,x2,x3].drop 2).take (Tryz.prog.cellsOf 49)):=h2 2 _ rfl
 rw[c2] at f2
 obtain⟨n2,e2,l2,m2⟩:=rd_sp f2
 simp at e0 e1 e2
 subst e0
 subst e1
 obtain⟨rfl,rfl⟩:=e2
 refine⟨⟨n0,n1,n2⟩,rfl,rfl,⟨l0,l1,⟨l2,m2⟩⟩⟩
theorem rd_show (h:Rd enc Tryz.prog W 42 cs):∃v:ScS,cs.all (okv W.heap.size)=true/\ScSR (ro W) (cs.map nz) v/\v.Fit:=by
 have cS:Tryz.prog.cellsOf 42=6:=by kernel_rfl
 obtain⟨h1,h2⟩:=rd_struct Tryz.underlying42 h
 rw[cS] at h1
 obtain⟨x0,x1,x2,x3,x4,x5,rfl⟩:∃x0 x1 x2 x3 x4 x5,cs=[x0,x1,x2,x3,x4,x5]:=by
  match cs,h1 with
  | [x0,x1,x2,x3,x4,x5],_=>exact⟨x0,x1,x2,x3,x4,x5,rfl⟩
 have c0:Tryz.prog.cellsOf 3=1:=by kernel_rfl
 have f0:Rd enc Tryz.prog W 3 (([x0,x1,x2,x3,x4,x5].drop 0).take (Tryz.prog.cellsOf 3)):=h2 0 _ rfl
 rw[c0] at f0
 obtain⟨n0,e0,l0⟩:=rd_int Tryz.underlying3 f0
 have c1:Tryz.prog.cellsOf 3=1:=by kernel_rfl
 have f1:Rd enc Tryz.prog W 3 (([x0,x1,x2,x3,x4,x5].drop 1).take (Tryz.prog.cellsOf 3)):=h2 1 _ rfl
 rw[c1] at f1
 obtain⟨n1,e1,l1⟩:=rd_int Tryz.underlying3 f1
 have c2:Tryz.prog.cellsOf 3=1:=by kernel_rfl
 have f2:Rd enc Tryz.prog W 3 (([x0,x1,x2,x3,x4,x5].drop 2).take (Tryz.prog.cellsOf 3)):=h2 2 _ rfl
 rw[c2] at f2
 obtain⟨n2,e2,l2⟩:=rd_int Tryz.underlying3 f2
 have c3:Tryz.prog.cellsOf 3=1:=by kernel_rfl
 have f3:Rd enc Tryz.prog W 3 (([x0,x1,x2,x3,x4,x5].drop 3).take (Tryz.prog.cellsOf 3)):=h2 3 _ rfl
 rw[c3] at f3
 obtain⟨n3,e3,l3⟩:=rd_int Tryz.underlying3 f3
 have c4:Tryz.prog.cellsOf 3=1:=by kernel_rfl
 have f4:Rd enc Tryz.prog W 3 (([x0,x1,x2,x3,x4,x5].drop 4).take (Tryz.prog.cellsOf 3)):=h2 4 _ rfl
 rw[c4] at f4
 obtain⟨n4,e4,l4⟩:=rd_int Tryz.underlying3 f4
 have c5:Tryz.prog.cellsOf 3=1:=by kernel_rfl
 have f5:Rd enc Tryz.prog W 3 (([x0,x1,x2,x3,x4,x5].drop 5).take (Tryz.prog.cellsOf 3)):=h2 5 _ rfl
 rw[c5] at f5
 obtain⟨n5,e5,l5⟩:=rd_int Tryz.underlying3 f5
 simp at e0 e1 e2 e3 e4 e5
 subst e0
 subst e1
 subst e2
 subst e3
 subst e4
 subst e5
 refine⟨⟨n0,n1,n2,n3,n4,n5⟩,rfl,rfl,⟨l0,l1,l2,l3,l4,l5⟩⟩
theorem rd_sctask (h:Rd enc Tryz.prog W 31 cs):∃v:ScT,cs.all (okv W.heap.size)=true/\ScTAt (ro W) (cs.map nz) v/\v.Fit:=by
 have cS:Tryz.prog.cellsOf 31=9:=by kernel_rfl
 obtain⟨h1,h2⟩:=rd_struct Tryz.underlying31 h
 rw[cS] at h1
 obtain⟨x0,x1,x2,x3,x4,x5,x6,x7,x8,rfl⟩:∃x0 x1 x2 x3 x4 x5 x6 x7 x8,cs=[x0,x1,x2,x3,x4,x5,x6,x7,x8]:=by
  match cs,h1 with
  | [x0,x1,x2,x3,x4,x5,x6,x7,x8],_=>exact⟨x0,x1,x2,x3,x4,x5,x6,x7,x8,rfl⟩
 have c0:Tryz.prog.cellsOf 3=1:=by kernel_rfl
 have f0:Rd enc Tryz.prog W 3 (([x0,x1,x2,x3,x4,x5,x6,x7,x8].drop 0).take (Tryz.prog.cellsOf 3)):=h2 0 _ rfl
 rw[c0] at f0
 obtain⟨n0,e0,l0⟩:=rd_int Tryz.underlying3 f0
 have c1:Tryz.prog.cellsOf 22=1:=by kernel_rfl
 have f1:Rd enc Tryz.prog W 22 (([x0,x1,x2,x3,x4,x5,x6,x7,x8].drop 1).take (Tryz.prog.cellsOf 22)):=h2 1 _ rfl
 rw[c1] at f1
 obtain⟨v1,a1,n1,cap1,e1,ok1,nz1,hI1,hL1,hF1⟩:=rd_strsP f1
 have c2:Tryz.prog.cellsOf 23=1:=by kernel_rfl
 have f2:Rd enc Tryz.prog W 23 (([x0,x1,x2,x3,x4,x5,x6,x7,x8].drop 2).take (Tryz.prog.cellsOf 23)):=h2 2 _ rfl
 rw[c2] at f2
 obtain⟨v2,a2,n2,cap2,e2,ok2,nz2,hI2,hL2,hF2⟩:=rd_rows (R:=ScTvR) (Fit:=fun l=>Len l/\∀n∈l,I64 n) Tryz.underlying23 (k:=1) (by kernel_rfl) (by decide) (fun row hr=>rd_line hr) f2
 have c3:Tryz.prog.cellsOf 24=1:=by kernel_rfl
 have f3:Rd enc Tryz.prog W 24 (([x0,x1,x2,x3,x4,x5,x6,x7,x8].drop 3).take (Tryz.prog.cellsOf 24)):=h2 3 _ rfl
 rw[c3] at f3
 obtain⟨v3,a3,n3,cap3,e3,ok3,nz3,hI3,hL3,hF3⟩:=rd_rows (R:=ScVR) (Fit:=ScV.Fit) Tryz.underlying24 (k:=9) (by kernel_rfl) (by decide) (fun row hr=>rd_venue hr) f3
 have c4:Tryz.prog.cellsOf 25=1:=by kernel_rfl
 have f4:Rd enc Tryz.prog W 25 (([x0,x1,x2,x3,x4,x5,x6,x7,x8].drop 4).take (Tryz.prog.cellsOf 25)):=h2 4 _ rfl
 rw[c4] at f4
 obtain⟨v4,a4,n4,cap4,e4,ok4,nz4,hI4,hL4,hF4⟩:=rd_rows (R:=ScRR) (Fit:=ScR.Fit) Tryz.underlying25 (k:=5) (by kernel_rfl) (by decide) (fun row hr=>rd_right hr) f4
 have c5:Tryz.prog.cellsOf 26=1:=by kernel_rfl
 have f5:Rd enc Tryz.prog W 26 (([x0,x1,x2,x3,x4,x5,x6,x7,x8].drop 5).take (Tryz.prog.cellsOf 26)):=h2 5 _ rfl
 rw[c5] at f5
 obtain⟨v5,a5,n5,cap5,e5,ok5,nz5,hI5,hL5,hF5⟩:=rd_rows (R:=ScPR) (Fit:=ScP.Fit) Tryz.underlying26 (k:=7) (by kernel_rfl) (by decide) (fun row hr=>rd_print hr) f5
 have c6:Tryz.prog.cellsOf 27=1:=by kernel_rfl
 have f6:Rd enc Tryz.prog W 27 (([x0,x1,x2,x3,x4,x5,x6,x7,x8].drop 6).take (Tryz.prog.cellsOf 27)):=h2 6 _ rfl
 rw[c6] at f6
 obtain⟨v6,a6,n6,cap6,e6,ok6,nz6,hI6,hL6,hF6⟩:=rd_rows (R:=ScPkR) (Fit:=ScPk.Fit) Tryz.underlying27 (k:=5) (by kernel_rfl) (by decide) (fun row hr=>rd_pack hr) f6
 have c7:Tryz.prog.cellsOf 28=1:=by kernel_rfl
 have f7:Rd enc Tryz.prog W 28 (([x0,x1,x2,x3,x4,x5,x6,x7,x8].drop 7).take (Tryz.prog.cellsOf 28)):=h2 7 _ rfl
 rw[c7] at f7
 obtain⟨v7,a7,n7,cap7,e7,ok7,nz7,hI7,hL7,hF7⟩:=rd_rows (R:=ScKR) (Fit:=ScK.Fit) Tryz.underlying28 (k:=4) (by kernel_rfl) (by decide) (fun row hr=>rd_key hr) f7
 have c8:Tryz.prog.cellsOf 29=1:=by kernel_rfl
 have f8:Rd enc Tryz.prog W 29 (([x0,x1,x2,x3,x4,x5,x6,x7,x8].drop 8).take (Tryz.prog.cellsOf 29)):=h2 8 _ rfl
 rw[c8] at f8
 obtain⟨v8,a8,n8,cap8,e8,ok8,nz8,hI8,hL8,hF8⟩:=rd_rows (R:=ScLR) (Fit:=ScL.Fit) Tryz.underlying29 (k:=4) (by kernel_rfl) (by decide) (fun row hr=>rd_loan hr) f8
 simp at e0 e1 e2 e3 e4 e5 e6 e7 e8
 subst e0
 subst e1
 subst e2
 subst e3
 subst e4
 subst e5
 subst e6
 subst e7
 subst e8
 refine⟨⟨n0,n1,n2,n3,n4,n5,n6,n7,n8⟩,?_,⟨a1,cap1,a2,cap2,a3,cap3,a4,cap4,a5,cap5,a6,cap6,a7,cap7,a8,cap8,?_,hI1,hI2,hI3,hI4,hI5,hI6,hI7,hI8⟩,⟨l0,hL1,hF1,hL2,hF2,hL3,hF3,hL4,hF4,hL5,hF5,hL6,hF6,hL7,hF7,hL8,hF8⟩⟩
 ·simp[ok1,ok2,ok3,ok4,ok5,ok6,ok7,ok8]
  try (repeat' constructor)
 ·simp only[List.map_cons,List.map_nil,nz1,nz2,nz3,nz4,nz5,nz6,nz7,nz8];rfl
end
end Go.Dw
/- SR2: reading numbers of one byte, lists of shows, lists that are cut. -/
namespace Go.Dw
open Go Go.Dx Go.Proofs
set_option maxRecDepth 100000
section
variable {P:Program}{H:Type}{enc:TypeId×Value->H}{W:World}{cs:List Value}{t e:TypeId}
theorem rd_u8 (ht:P.underlying t=some (.int .u8))(h:Rd enc P W t cs):∃n,cs=[.int .u8 n]/\0<=n/\n<256:=by
 obtain⟨m,x,hx⟩:=h
 obtain⟨n,h1,_,h3⟩:=DataW.trod_int ht hx
 refine⟨n,h1,?_⟩
 simp[Lit.wf] at h3
 have h4:IntKind.u8.min=0:=by decide
 have h5:IntKind.u8.max=255:=by decide
 omega
theorem rd_takeOk {v:Value}{a:Option Addr}{len cap:Nat}{el:TypeId}(ht:P.underlying t=some (.slice e))(hz:0<P.cellsOf e)(h:Rd enc P W t [v])(hn:nz v=.slice a len cap):TakeOk P el a len cap:=by
 obtain⟨v1,a1,len1,cap1,g1,g2,g3⟩:=rd_sliceC ht h
 obtain⟨v2,a2,len2,cap2,k1,k2,k3,_,k5⟩:=rd_slice ht hz h
 obtain⟨v3,a3,len3,cap3,j1,j2,j3⟩:=rd_slice0 ht hz h
 simp only[List.cons.injEq,and_true] at g1 k1 j1
 subst g1;subst k1;subst j1
 rw[hn] at g2 k3 j2
 simp only[Value.slice.injEq] at g2 k3 j2
 obtain⟨rfl,rfl,rfl⟩:=g2
 obtain⟨rfl,rfl,rfl⟩:=k3
 obtain⟨rfl,rfl,rfl⟩:=j2
 rcases Nat.eq_zero_or_pos len with h0|h0
 ·rcases j3 h0 with rfl|⟨b,o,rfl⟩|⟨b,o,_,_,_,rfl,_⟩
  ·exact .inl ⟨rfl,h0⟩
  ·subst h0
   unfold nz at hn
   split at hn
   ·simp only[Value.slice.injEq,Option.some.injEq,Addr.mk.injEq] at hn
    obtain⟨⟨rfl,rfl,-⟩,-,rfl⟩:=hn
    exact .inr (.inr (.inl ⟨0,rfl,rfl,rfl⟩))
   ·rename_i hq
    subst hn
    cases cap with
    | zero=>exact absurd rfl (hq _)
    | succ c=>simp[okv] at k2
  ·exact .inr (.inl ⟨b,o,rfl,g3⟩)
 ·obtain⟨b,o,rfl,_⟩:=k5 0 h0
  exact .inr (.inl ⟨b,o,rfl,g3⟩)
theorem rd_shows (h:Rd enc Tryz.prog W 80 cs):∃v a l cap,cs=[v]/\okv W.heap.size v=true/\nz v=.slice a l.length cap/\RowsAt 6 ScSR (ro W) a l/\Len l/\∀s∈l,s.Fit :=
 rd_rows (R:=ScSR) (Fit:=ScS.Fit) Tryz.underlying80 (k:=6) (by kernel_rfl) (by decide) (fun row hr=>rd_show hr) h
end
end Go.Dw
/- SE: chapter 11 with no program in sight: laws of ScreenTimes, ScreenLent. -/
namespace Go.Dw
open Go Go.Dx Go.Proofs
def namesSc:List (List UInt8)->List (List UInt8)->Prop
 | _,[]=>True
 | b,s::l=>nameErr s b=0/\namesSc (b++[s]) l
theorem goNm_iff {α:Type}{nm:α->List UInt8}{wrong:α->Int}:∀{l:List α}{i:Nat}{b:List (List UInt8)},goNm nm wrong i b l=none ↔ namesSc b (l.map nm)/\∀x∈l,wrong x=0
 | [],_,_=>by simp[goNm,namesSc]
 | a::l,i,b=>by
  rw[goNm]
  split
  ·rename_i h
   simp only[reduceCtorEq,false_iff]
   exact fun g=>h g.1.1
  ·rename_i h1
   split
   ·rename_i h
    simp only[reduceCtorEq,false_iff]
    exact fun g=>h (g.2 a List.mem_cons_self)
   ·rename_i h2
    rw[goNm_iff]
    constructor
    ·rintro⟨c,d⟩
     exact⟨⟨Classical.not_not.1 h1,c⟩,fun x hx=>by
      rcases List.mem_cons.1 hx with e|g
      ·rw[e];exact Classical.not_not.1 h2
      ·exact d x g⟩
    ·rintro⟨c,d⟩
     exact⟨c.2,fun x hx=>d x (List.mem_cons_of_mem _ hx)⟩
theorem goEa_iff {α:Type}{wrong:α->Int}:∀{l:List α}{i:Nat},goEa wrong i l=none ↔ ∀x∈l,wrong x=0
 | [],_=>by simp[goEa]
 | a::l,i=>by
  rw[goEa]
  split
  ·rename_i h
   simp only[reduceCtorEq,false_iff]
   exact fun g=>h (g a List.mem_cons_self)
  ·rename_i h
   rw[goEa_iff]
   constructor
   ·intro d x hx
    rcases List.mem_cons.1 hx with e|g
    ·rw[e];exact Classical.not_not.1 h
    ·exact d x g
   ·exact fun d x hx=>d x (List.mem_cons_of_mem _ hx)
def twoV (v:ScV):ScV:=⟨v.name,v.land,2,v.speeds,v.change,v.spool,v.turn,v.digital⟩
def twoT (t:ScT)(k:Nat):ScT:=⟨t.first,t.lands,t.travel,t.venues.set k (twoV (t.venues.getD k noV)),t.rights,t.prints,t.packs,t.keys,t.loans⟩
theorem map_set_eq {α β:Type}{f:α->β}{l:List α}{k:Nat}{y d:α}(h:f y=f (l.getD k d)):(l.set k y).map f=l.map f:=by
 rw[List.map_set]
 by_cases hk:k<l.length
 ·rw[h,List.getD_eq_getElem?_getD,List.getElem?_eq_getElem hk,Option.getD_some]
  apply List.ext_getElem (by simp)
  intro i h1 h2
  rw[List.getElem_set]
  split
  ·rename_i e;subst e;rw[List.getElem_map]
  ·rfl
 ·rw[List.set_eq_of_length_le (by rw[List.length_map];omega)]
theorem twoT_ok {t:ScT}{k:Nat}(h:errSc t=0):errSc (twoT t k)=0:=by
 have hO:=sc_ok h
 unfold errSc checkSc at h ⊢
 have hl:(twoT t k).venues.length=t.venues.length:=List.length_set
 split at h
 ·cases h
 rename_i h1
 split at h
 ·cases h
 rename_i h2
 obtain⟨a2,h⟩:=orE_zero (fun _=>goNm_e) h
 split at h
 ·rename_i h3;exact absurd h h3
 rename_i h3
 obtain⟨a3,h⟩:=orE_zero (fun _=>goNm_e) h
 obtain⟨a4,h⟩:=orE_zero (fun _=>goEa_e) h
 obtain⟨a5,h⟩:=orE_zero (fun _=>goNm_e) h
 obtain⟨a6,h⟩:=orE_zero (fun _=>goNm_e) h
 obtain⟨a7,h⟩:=orE_zero (fun _=>goEa_e) h
 obtain⟨a8,h⟩:=orE_zero (fun _=>goEa_e) h
 rw[if_neg (show ¬((twoT t k).first<0\/80000<(twoT t k).first) from h1),if_neg (by rw[hl];exact h2)]
 have b3:goNm ScV.name (venueErr (twoT t k)) 0 [] (twoT t k).venues=none:=by
  rw[goNm_iff]
  refine⟨?_,fun v hv=>?_⟩
  ·have e:(twoT t k).venues.map ScV.name=t.venues.map ScV.name:=map_set_eq (d:=noV) rfl
   rw[e]
   exact (goNm_iff.1 a3).1
  ·rcases List.mem_or_eq_of_mem_set hv with g|e
   ·exact hO.venues v g
   ·subst e
    by_cases hk:k<t.venues.length
    ·have hm:t.venues.getD k noV∈t.venues:=by
      rw[List.getD_eq_getElem?_getD,List.getElem?_eq_getElem hk]
      exact List.getElem_mem hk
     have hv0:=hO.venues _ hm
     obtain⟨c1,c2,c3,c4,c5,c6⟩:=venue_ok hv0
     unfold venueErr
     rw[if_neg (by show ¬abroad t _;unfold abroad;simp only[twoV];omega),if_neg (by show ¬(((2:Int)<0\/(2:Int)<2)\/_);simp only[twoV];omega)]
     exact c6
    ·exfalso
     have e:(twoT t k).venues=t.venues:=List.set_eq_of_length_le (by omega)
     rw[e] at hv
     have hv0:=hO.venues _ hv
     obtain⟨_,_,_,_,c5,_⟩:=venue_ok hv0
     have:(twoV (t.venues.getD k noV)).spool=0:=by rw[List.getD_eq_getElem?_getD,List.getElem?_eq_none (by omega)];rfl
     omega
 have b7:goEa (keyErr (twoT t k)) 0 t.keys=none:=by
  rw[goEa_iff] at a7 ⊢
  intro x hx
  have:=a7 x hx
  unfold keyErr at this ⊢
  rw[hl]
  exact this
 have b8:goEa (loanErr (twoT t k)) 0 t.loans=none:=by
  rw[goEa_iff] at a8 ⊢
  intro x hx
  have:=a8 x hx
  unfold loanErr at this ⊢
  rw[hl]
  exact this
 show (orE 2 (goNm id (fun _=>0) 0 [] t.lands) _).2.2=0
 rw[a2]
 show (if travelErr t≠0 then _ else _:Int×Int×Int).2.2=0
 rw[if_neg h3]
 rw[b3]
 show (orE 4 (goEa (rightErr t) 0 t.rights) (orE 5 (goNm ScP.name (printErr t) 0 [] t.prints) (orE 6 (goNm ScPk.name packErr 0 [] t.packs) (orE 7 (goEa (keyErr (twoT t k)) 0 t.keys) (orE 8 (goEa (loanErr (twoT t k)) 0 t.loans) (0,0,0)))))).2.2=0
 rw[a4,a5,a6,b7,b8]
 rfl
theorem twoT_shown {t:ScT}{k:Nat}{s:ScS}:shownErr (twoT t k) s=shownErr t s:=by
 have hl:(twoT t k).venues.length=t.venues.length:=List.length_set
 unfold shownErr
 rw[hl]
 rfl
theorem long_two {t:ScT}(hO:ScOk t){s:ScS}(h:shownErr t s=0):longS (twoT t s.venue.toNat) s<=longS t s/\(s.print<0->longS (twoT t s.venue.toNat) s=longS t s) ∧
  (0<=s.print->((prAt t s).reels.length:Int)<=60*longS (twoT t s.venue.toNat) s/\((venAt t s).proj=2\/longS t s-longS (twoT t s.venue.toNat) s=(venAt t s).change*(((prAt t s).reels.length:Int)-1))):=by
 obtain⟨hv,hpp,_,hsp,_⟩:=shown_ok h
 obtain⟨_,hpj,hch,_⟩:=venue_ok (ven_ok hO h)
 have ev:venAt (twoT t s.venue.toNat) s=twoV (venAt t s):=by
  show (t.venues.set s.venue.toNat _).getD s.venue.toNat noV=_
  rw[List.getD_eq_getElem?_getD,List.getElem?_set_self (by omega)]
  rfl
 have ep:prAt (twoT t s.venue.toNat) s=prAt t s:=rfl
 have ek:pkAt (twoT t s.venue.toNat) s=pkAt t s:=rfl
 unfold longS
 rw[ev,ep,ek]
 have e2:(twoV (venAt t s)).proj=2:=rfl
 rw[e2,if_neg (show ¬(2:Int)<2 by decide)]
 rcases hpp with ⟨p0,p1,pk⟩|⟨k0,k1,pr⟩
 ·rw[if_neg (show ¬0<=s.pack by omega),if_neg (show ¬0<=s.pack by omega)]
  obtain⟨h1,h2,_⟩:=print_ok (pr_ok hO h pk)
  have h3:=secs_rng hsp.1 h2
  have h4:=upS_mul (a:=secsS (prAt t s).reels s.speed) (show (1:Int)<=60 by decide)
  have h6:0<=(venAt t s).change*(((prAt t s).reels.length:Int)-1):=Int.mul_nonneg hch.1 (by omega)
  refine⟨by split <;> omega,fun hx=>by omega,fun _=>⟨by omega,?_⟩⟩
  by_cases c:(venAt t s).proj<2
  ·rw[if_pos c];exact .inr (by omega)
  ·exact .inl (by omega)
 ·rw[if_pos k0,if_pos k0]
  exact⟨Int.le_refl _,fun _=>rfl,fun hx=>by omega⟩
theorem stopG_false {t:ScT}{at' f:Int}{y:ScL}(h:stopG t at' (some f) y=false):0<=trv t at' (venLand t y.venue)/\trv t at' (venLand t y.venue)<y.days.lo-f:=by
 unfold stopG at h
 simp only[Bool.or_eq_false_iff,decide_eq_false_iff_not] at h
 omega
theorem goG_next {t:ScT}:∀{l:List ScL}{at':Int}{fr:Option Int},goG t at' fr l≠none->l.Pairwise (fun a b=>a.days.lo<b.days.lo)->(∀y∈l,y.days.lo<=y.days.hi)->∀a b,a∈l->b∈l->a.days.lo<b.days.lo →
  a.days.hi<b.days.lo/\((∀c∈l,¬(a.days.lo<c.days.lo/\c.days.lo<b.days.lo))->stopG t (venLand t a.venue) (some a.days.hi) b=false)
 | [],_,_,_,_,_,_,_,ha,_,_=>nomatch ha
 | y::l,at',fr,hg,hs,hv,a,b,ha,hb,hab=>by
  rw[goG] at hg
  split at hg
  ·exact absurd rfl hg
  rw[List.pairwise_cons] at hs
  rcases List.mem_cons.1 ha with ea|ha'
  ·subst ea
   rcases List.mem_cons.1 hb with eb|hb
   ·rw[eb] at hab;exact absurd hab (Int.lt_irrefl _)
   cases l with
   | nil=>nomatch hb
   | cons z l =>
    have hz:stopG t (venLand t a.venue) (some a.days.hi) z=false:=by
     rw[goG] at hg
     split at hg
     ·exact absurd rfl hg
     ·rename_i h1
      cases hq:stopG t (venLand t a.venue) (some a.days.hi) z
      ·rfl
      ·exact absurd hq h1
    have h1:=stopG_false hz
    rcases List.mem_cons.1 hb with rfl|hb
    ·exact⟨by omega,fun _=>hz⟩
    ·have h2:=(List.pairwise_cons.1 hs.2).1 b hb
     have h3:=hs.1 z List.mem_cons_self
     exact⟨by omega,fun hn=>absurd ⟨h3,h2⟩ (hn z (by simp))⟩
  ·rcases List.mem_cons.1 hb with eb|hb
   ·have:=hs.1 a ha'
    rw[eb] at hab
    omega
   obtain⟨i1,i2⟩:=goG_next hg hs.2 (fun x hx=>hv x (List.mem_cons_of_mem _ hx)) a b ha' hb hab
   exact⟨i1,fun hn=>i2 fun c hc=>hn c (List.mem_cons_of_mem _ hc)⟩
def ofP (G:List ScL)(p:Int):List ScL:=G.filter fun g=>decide (g.print=p)
def Chains (t:ScT)(G:List ScL):Prop:=∀p,ofP G p≠[]->∃S,S.Perm (ofP G p)/\S.Pairwise loLe/\canG t (homeG t p) S=true
theorem chains_step {t:ScT}{G:List ScL}{x:ScL}(h:Chains t G)(hx:grantS t G x=true):Chains t (G++[x]):=by
 intro p hp
 by_cases e:x.print=p
 ·subst e
  refine⟨ofG G x,ofG_perm.trans ?_,ofG_sorted,hx⟩
  unfold ofP
  rw[List.filter_append,List.filter_cons,if_pos (by simp),List.filter_nil]
  exact (List.perm_append_singleton _ _).symm
 ·have e2:ofP (G++[x]) p=ofP G p:=by
   unfold ofP
   rw[List.filter_append,List.filter_cons,if_neg (by simpa using e),List.filter_nil,List.append_nil]
  rw[e2] at hp ⊢
  exact h p hp
def stepG (t:ScT)(s:List ScL×List Int)(x:ScL):List ScL×List Int:=if grantS t s.1 x=true then (s.1++[x],s.2++[0]) else (s.1,s.2++[210])
theorem loansS_eq (t:ScT):loansS t=t.loans.foldl (stepG t) ([],[]):=rfl
structure Grants (t:ScT)(l:List ScL)(s:List ScL×List Int):Prop where
 len:s.2.length=l.length
 chains:Chains t s.1
 sub:s.1=((l.zip s.2).filter fun p=>decide (p.2=0)).map Prod.fst
 vals:∀e∈s.2,e=0\/e=210
theorem grants (t:ScT)(l:List ScL):Grants t l (l.foldl (stepG t) ([],[])):=by
 refine snocInd (p:=fun l=>Grants t l (l.foldl (stepG t) ([],[]))) ⟨rfl,fun p hp=>absurd rfl hp,rfl,fun _ h=>nomatch h⟩ (fun l x ih=>?_) l
 rw[List.foldl_append]
 show Grants t (l++[x]) (stepG t (l.foldl (stepG t) ([],[])) x)
 generalize l.foldl (stepG t) ([],[])=s at *
 unfold stepG
 split
 ·rename_i h
  refine⟨by simp[ih.len],chains_step ih.chains h,?_,fun e he=>?_⟩
  ·show s.1++[x]=(((l++[x]).zip (s.2++[0])).filter _).map _
   rw[List.zip_append ih.len.symm,List.filter_append,List.map_append,<-ih.sub]
   rfl
  ·rcases List.mem_append.1 he with g|g
   ·exact ih.vals e g
   ·exact .inl (List.mem_singleton.1 g)
 ·refine⟨by simp[ih.len],ih.chains,?_,fun e he=>?_⟩
  ·show s.1=(((l++[x]).zip (s.2++[210])).filter _).map _
   rw[List.zip_append ih.len.symm,List.filter_append,List.map_append,<-ih.sub]
   simp
  ·rcases List.mem_append.1 he with g|g
   ·exact ih.vals e g
   ·exact .inr (List.mem_singleton.1 g)
theorem pair_sub {α:Type}{l:List α}{i k:Nat}(hk:k<l.length)(hik:i<k):[l[i],l[k]].Sublist l:=by
 have h1:l=l.take k++l[k]::l.drop (k+1):=by rw[List.getElem_cons_drop,List.take_append_drop]
 have h2:[l[i]].Sublist (l.take k):=by
  rw[List.singleton_sublist,List.mem_take_iff_getElem]
  exact⟨i,by omega,rfl⟩
 have h3:=h2.append (List.Sublist.cons_cons l[k] (List.nil_sublist (l.drop (k+1))))
 rw[<-h1] at h3
 exact h3
theorem lent_law {t:ScT}(hO:ScOk t){i k:Nat}(hi:i<t.loans.length)(hk:k<t.loans.length)(hik:i≠k)(wi:(loansS t).2.getD i 1=0)(wk:(loansS t).2.getD k 1=0)(hp:t.loans[k].print=t.loans[i].print)(hle:t.loans[i].days.lo<=t.loans[k].days.lo) :
  t.loans[i].days.hi<t.loans[k].days.lo/\((∀m (hm:m<t.loans.length),(loansS t).2.getD m 1=0->t.loans[m].print=t.loans[i].print->¬(t.loans[i].days.lo<t.loans[m].days.lo/\t.loans[m].days.lo<t.loans[k].days.lo)) →
   0<=trv t (venLand t t.loans[i].venue) (venLand t t.loans[k].venue)/\trv t (venLand t t.loans[i].venue) (venLand t t.loans[k].venue)<t.loans[k].days.lo-t.loans[i].days.hi):=by
 have hG:=grants t t.loans
 rw[<-loansS_eq] at hG
 generalize loansS t=s at *
 obtain⟨G,W⟩:=s
 simp only at wi wk hG ⊢
 have hl:=hG.len
 have hsub:=hG.sub
 have hch:=hG.chains
 simp only at hl hsub hch
 have hg:∀m (hm:m<t.loans.length),W.getD m 1=W[m]'(by omega):=fun m hm=>by rw[List.getD_eq_getElem?_getD,List.getElem?_eq_getElem (by omega)];rfl
 have hzl:(t.loans.zip W).length=t.loans.length:=by rw[List.length_zip];omega
 have hz:∀m (hm:m<t.loans.length),(t.loans.zip W)[m]'(by omega)=(t.loans[m],W[m]'(by omega)):=fun m hm=>List.getElem_zip
 have hof:ofP G t.loans[i].print=((t.loans.zip W).filter fun p=>decide (p.2=0) && decide (p.1.print=t.loans[i].print)).map Prod.fst:=by
  unfold ofP
  rw[hsub,List.filter_map,List.filter_filter]
  congr 1
  apply List.filter_congr
  intro x _
  rw[Bool.and_comm];rfl
 have hmem:∀m (hm:m<t.loans.length),W.getD m 1=0->t.loans[m].print=t.loans[i].print->t.loans[m]∈ofP G t.loans[i].print:=fun m hm hw hpm=>by
  rw[hof]
  refine List.mem_map.2 ⟨(t.loans[m],W[m]'(by omega)),List.mem_filter.2 ⟨by rw[<-hz m hm];exact List.getElem_mem _,?_⟩,rfl⟩
  rw[hg m hm] at hw
  simp[hw,hpm]
 have ha:=hmem i hi wi rfl
 have hb:=hmem k hk wk hp
 obtain⟨S,hS1,hS2,hS3⟩:=hch t.loans[i].print (List.ne_nil_of_mem ha)
 have hv:∀y∈S,y.days.lo<=y.days.hi:=fun y hy=>by
  have h1:=hS1.subset hy
  rw[hof] at h1
  obtain⟨q,hq,rfl⟩:=List.mem_map.1 h1
  have h2:=(List.of_mem_zip (List.mem_filter.1 hq).1).1
  exact (odd_ok (loan_ok (hO.loans _ h2)).2.2).2.1
 have hn:(S.map fun y=>y.days.lo).Nodup:=Classical.byContradiction fun hx=>by
  rw[canG_twice hS2 hv hx] at hS3
  cases hS3
 have hlt:=lt_of_nodup hS2 hn
 have hne:t.loans[i].days.lo≠t.loans[k].days.lo:=by
  have hn2:((ofP G t.loans[i].print).map fun y=>y.days.lo).Nodup:=(hS1.map _).nodup_iff.1 hn
  have key:∀u v (hu:u<t.loans.length) (hv:v<t.loans.length),u<v->W.getD u 1=0->W.getD v 1=0->t.loans[u].print=t.loans[i].print->t.loans[v].print=t.loans[i].print->t.loans[u].days.lo≠t.loans[v].days.lo:=fun u v hu hv huv wu wv pu pv=>by
   have h1:=pair_sub (l:=t.loans.zip W) (i:=u) (k:=v) (by omega) huv
   rw[hz u hu,hz v hv] at h1
   rw[hg u hu] at wu
   rw[hg v hv] at wv
   have h2:=(h1.filter fun p=>decide (p.2=0) && decide (p.1.print=t.loans[i].print)).map Prod.fst
   rw[<-hof] at h2
   have h3:([(t.loans[u],W[u]'(by omega)),(t.loans[v],W[v]'(by omega))].filter fun p=>decide (p.2=0) && decide (p.1.print=t.loans[i].print))=[(t.loans[u],W[u]'(by omega)),(t.loans[v],W[v]'(by omega))]:=by simp[wu,wv,pu,pv]
   rw[h3] at h2
   have h4:=(h2.map fun y=>y.days.lo).nodup hn2
   simp only[List.map_cons,List.map_nil,List.nodup_cons,List.mem_singleton] at h4
   exact h4.1
  rcases Nat.lt_or_gt_of_ne hik with g|g
  ·exact key i k hi hk g wi wk rfl hp
  ·exact fun e=>key k i hk hi g wk wi hp rfl e.symm
 have hgo:goG t (homeG t t.loans[i].print) none S≠none:=fun hx=>by
  unfold canG at hS3
  rw[hx] at hS3
  cases hS3
 obtain⟨h1,h2⟩:=goG_next hgo hlt hv _ _ (hS1.symm.subset ha) (hS1.symm.subset hb) (by omega)
 refine⟨h1,fun hbt=>stopG_false (h2 fun c hc=>?_)⟩
 have hc2:=hS1.subset hc
 rw[hof] at hc2
 obtain⟨q,hq,rfl⟩:=List.mem_map.1 hc2
 obtain⟨hq1,hq2⟩:=List.mem_filter.1 hq
 obtain⟨m,hm,hqm⟩:=List.getElem_of_mem hq1
 rw[hzl] at hm
 rw[hz m hm] at hqm
 rw[<-hqm] at hq2 ⊢
 simp only[Bool.and_eq_true,decide_eq_true_eq] at hq2
 exact hbt m hm (by rw[hg m hm];exact hq2.1) hq2.2
end Go.Dw
/- SG: the best of some intervals, with no program in sight. -/
namespace Go.Dw
open Go Go.Dx Go.Proofs
structure Iv where
 s:Int
 e:Int
 w:Int
structure Iv.Ok (x:Iv):Prop where
 s0:0<=x.s
 se:x.s<x.e
 w0:0<=x.w
def maxBy {α:Type}(p:α->Prop) [DecidablePred p](f:α->Int)(n0:Int)(l:List α):Int:=l.foldl (fun n x=>if p x then max n (f x) else n) n0
section
variable {α:Type}{p:α->Prop} [DecidablePred p]{f g:α->Int}
end
def mostF (l:List Iv):Nat->Int->Int
 | 0,_=>0
 | f+1,b=>maxBy (fun x:Iv=>x.e<=b) (fun x=>x.w+mostF l f x.s) 0 l
def mostI (l:List Iv)(b:Int):Int:=mostF l (b.toNat+1) b
def RowI (P:List Iv):Prop:=P.Pairwise fun a b=>a.e<=b.s
def sumW (P:List Iv):Int:=(P.map Iv.w).sum
def priceI (l:List Iv)(e:Int):Int:=mostI l e-mostI l (e-1)
end Go.Dw
/- SH: the best of some intervals: one by one; any prices that cover all. -/
namespace Go.Dw
open Go Go.Dx Go.Proofs
def apart2 (a b:Iv):Prop:=a.e<=b.s\/b.e<=a.s
instance (a b:Iv):Decidable (apart2 a b):=inferInstanceAs (Decidable (_\/_))
def Disj (P:List Iv):Prop:=P.Pairwise apart2
theorem apart2.symm {a b:Iv}(h:apart2 a b):apart2 b a:=Or.symm h
def insI (x:Iv)(l:List Iv):List Iv:=l.takeWhile (fun y=>decide (y.e<=x.s))++x::l.dropWhile (fun y=>decide (y.e<=x.s))
def awayI (x:Iv)(l:List Iv):List Iv:=l.filter fun y=>decide (apart2 x y)
def coverI (Q:List (Int×Int))(x:Iv):Int:=((Q.filter fun q=>decide (x.s<=q.1/\q.1<=x.e-1)).map Prod.snd).sum
def totalI (Q:List (Int×Int)):Int:=(Q.map Prod.snd).sum
end Go.Dw
/- SL: the best programme, chosen one by one: in the program and in the reference; with no program in sight. -/
namespace Go.Dw
open Go Go.Dx Go.Proofs
section
variable {α:Type}(iv:α->Iv)(late:Int)
def bestA (l:List α):Int:=mostI (l.map iv) late
def awayA (x:α)(l:List α):List α:=l.filter fun y=>decide (apart2 (iv x) (iv y))
def choP (W:Int):Nat->List α->Int->List α
 | 0,_,_=>[]
 | _,[],_=>[]
 | f+1,x::l,s=>if W<=s then [] else if s+(iv x).w+bestA iv late (awayA iv x l)=W then x::choP W f (awayA iv x l) (s+(iv x).w) else choP W f l s
def fitA (now:List α)(x:α):Bool:=now.all fun y=>decide (apart2 (iv y) (iv x))
def choR (W:Int):List α->List α->Int->List α
 | [],_,_=>[]
 | x::l,now,s=>if W<=s then [] else if fitA iv now x=false then choR W l now s
  else if s+(iv x).w+bestA iv late (l.filter (fitA iv (now++[x])))=W then x::choR W l (now++[x]) (s+(iv x).w) else choR W l now s
end
end Go.Dw
/- SM: chapter 11 with no program in sight: law of ScreenRights; the reference's most. -/
namespace Go.Dw
open Go Go.Dx Go.Proofs
theorem why_zero {t:ScT}{s:ScS}(h:whyS t s=0):rightB t s=true/\(0<=s.print->hereB t s=true)/\(s.print<0->(venAt t s).digital=true/\keyB t s=true):=by
 unfold whyS at h
 split at h
 ·cases h
 rename_i h1
 refine⟨by simpa using h1,fun hp=>?_,fun hp=>?_⟩
 ·rw[if_pos hp] at h
  unfold filmS at h
  split at h
  ·cases h
  ·rename_i h2;simpa using h2
 ·rw[if_neg (by omega)] at h
  unfold digiS at h
  split at h
  ·cases h
  rename_i h2
  split at h
  ·cases h
  rename_i h3
  exact⟨by simpa using h2,by simpa using h3⟩
theorem right_day {t:ScT}{s:ScS}(h:rightB t s=true){day:Int}(h1:(daysS t s).lo<=day)(h2:day<=(daysS t s).hi):∃r∈t.rights,r.work=workS t s/\(r.version=[]\/r.version=versS t s)/\r.land=(venAt t s).land/\r.days.lo<=day/\day<=r.days.hi:=by
 obtain⟨r,hr,h3⟩:=List.any_eq_true.1 h
 obtain⟨a,b,c,d1,d2⟩:=of_decide_eq_true h3
 exact⟨r,hr,a,b,c,by omega,by omega⟩
theorem here_day {t:ScT}{s:ScS}(h:hereB t s=true){day:Int}(h1:(daysS t s).lo<=day)(h2:day<=(daysS t s).hi):∃k,∃hk:k<t.loans.length,(loansS t).2.getD k 1=0/\t.loans[k].print=s.print/\t.loans[k].venue=s.venue/\t.loans[k].days.lo<=day/\day<=t.loans[k].days.hi:=by
 obtain⟨l,hl,h3⟩:=List.any_eq_true.1 h
 obtain⟨a,b,c1,c2⟩:=of_decide_eq_true h3
 have hG:=grants t t.loans
 rw[<-loansS_eq] at hG
 rw[hG.sub] at hl
 obtain⟨q,hq,rfl⟩:=List.mem_map.1 hl
 obtain⟨hq1,hq2⟩:=List.mem_filter.1 hq
 obtain⟨k,hk,hqk⟩:=List.getElem_of_mem hq1
 have hlen:=hG.len
 have hk':k<t.loans.length:=by rw[List.length_zip] at hk;omega
 rw[List.getElem_zip] at hqk
 rw[<-hqk] at hq2 a b c1 c2
 refine⟨k,hk',?_,a,b,by simp only at c1;omega,by simp only at c2;omega⟩
 rw[List.getD_eq_getElem?_getD,List.getElem?_eq_getElem (by omega)]
 simpa using hq2
theorem key_open {t:ScT}{s:ScS}(h:keyB t s=true):∃k∈t.keys,k.pack=s.pack/\k.venue=s.venue/\k.window.lo<=s.minute/\endS t s<=k.window.hi:=by
 obtain⟨k,hk,h3⟩:=List.any_eq_true.1 h
 obtain⟨a,b,c1,c2⟩:=of_decide_eq_true h3
 exact⟨k,hk,a,b,c1,c2⟩
def endI (l:List Iv)(x:Iv):Int:=x.w+mostI l x.s
end Go.Dw
