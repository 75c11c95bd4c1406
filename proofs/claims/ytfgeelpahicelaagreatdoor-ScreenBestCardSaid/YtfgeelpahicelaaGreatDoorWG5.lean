/- SA: chapter 11 with no program in sight: a task, what is wrong with it. -/
import Derived.Test.YtfgeelpahicelaaGreatDoorWG3
set_option linter.unusedVariables false
set_option linter.unusedSimpArgs false
namespace Go.Dw
open Go Go.Dx Go.Proofs
structure Sp where
 lo:Int
 hi:Int
structure ScV where
 name:List UInt8
 land:Int
 proj:Int
 speeds:Sp
 change:Int
 spool:Int
 turn:Int
 digital:Bool
structure ScR where
 work:List UInt8
 version:List UInt8
 land:Int
 days:Sp
structure ScP where
 name:List UInt8
 work:List UInt8
 version:List UInt8
 reels:List Int
 speeds:Sp
 land:Int
structure ScPk where
 name:List UInt8
 work:List UInt8
 version:List UInt8
 frames:Int
 speed:Int
structure ScK where
 pack:Int
 venue:Int
 window:Sp
structure ScL where
 print:Int
 venue:Int
 days:Sp
structure ScT where
 first:Int
 lands:List (List UInt8)
 travel:List (List Int)
 venues:List ScV
 rights:List ScR
 prints:List ScP
 packs:List ScPk
 keys:List ScK
 loans:List ScL
def nameErr (s:List UInt8)(before:List (List UInt8)):Int:=if nameR s=false then 6 else if s∈before then 5 else 0
def oddS (s:Sp)(lo hi:Int):Int:=if (s.lo<lo\/hi<s.lo)\/(s.hi<lo\/hi<s.hi) then 7 else if s.hi<s.lo then 2 else 0
def travelErr (t:ScT):Int :=
 if t.travel.length≠t.lands.length then 2 else if (t.travel.any fun l=>decide (l.length≠t.lands.length))=true then 2
 else if (t.travel.any fun l=>l.any fun n=>decide (n < -1\/60<n))=true then 7 else 0
def abroad (t:ScT)(n:Int):Prop:=n<0\/(t.lands.length:Int)-1<n
instance (t:ScT)(n:Int):Decidable (abroad t n):=inferInstanceAs (Decidable (n<0\/_<n))
def venueErr (t:ScT)(v:ScV):Int :=
 if abroad t v.land then 4 else if (v.proj<0\/2<v.proj)\/(v.change<0\/60<v.change)\/(v.turn<0\/60<v.turn)\/(v.spool<1\/200000<v.spool) then 7 else oddS v.speeds 1 60
def rightErr (t:ScT)(r:ScR):Int :=
 if nameR r.work=false\/(r.version≠[]/\nameR r.version=false) then 6 else if abroad t r.land then 4 else oddS r.days 0 80000
def printErr (t:ScT)(p:ScP):Int :=
 if nameR p.work=false\/nameR p.version=false then 6 else if p.reels.length<1\/12<p.reels.length then 3
 else if (p.reels.any fun n=>decide (n<1\/200000<n))=true then 7 else if oddS p.speeds 1 60≠0 then oddS p.speeds 1 60 else if abroad t p.land then 4 else 0
def packErr (p:ScPk):Int :=
 if nameR p.work=false\/nameR p.version=false then 6 else if (p.frames<1\/2400000<p.frames)\/(p.speed<1\/60<p.speed) then 7 else 0
def keyErr (t:ScT)(k:ScK):Int :=
 if (k.pack<0\/(t.packs.length:Int)-1<k.pack)\/(k.venue<0\/(t.venues.length:Int)-1<k.venue) then 4 else oddS k.window 0 57600
def loanErr (t:ScT)(l:ScL):Int :=
 if (l.print<0\/(t.prints.length:Int)-1<l.print)\/(l.venue<0\/(t.venues.length:Int)-1<l.venue) then 4 else oddS l.days 0 80000
def goNm {α:Type}(nm:α->List UInt8)(wrong:α->Int):Nat->List (List UInt8)->List α->Option (Nat×Int)
 | _,_,[]=>none
 | i,b,x::xs=>if nameErr (nm x) b≠0 then some (i,nameErr (nm x) b) else if wrong x≠0 then some (i,wrong x) else goNm nm wrong (i+1) (b++[nm x]) xs
def goEa {α:Type}(wrong:α->Int):Nat->List α->Option (Nat×Int)
 | _,[]=>none
 | i,x::xs=>if wrong x≠0 then some (i,wrong x) else goEa wrong (i+1) xs
def orE (part:Int):Option (Nat×Int)->Int×Int×Int->Int×Int×Int
 | some (i,e),_=>(part,(i:Nat),e)
 | none,x=>x
def checkSc (t:ScT):Int×Int×Int :=
 if t.first<0\/80000<t.first then (1,0,7)
 else if (t.lands.length<1\/8<t.lands.length)\/(t.venues.length<1\/8<t.venues.length)\/30<t.rights.length\/12<t.prints.length\/12<t.packs.length\/30<t.keys.length\/30<t.loans.length then (1,0,3)
 else orE 2 (goNm id (fun _=>0) 0 [] t.lands) (if travelErr t≠0 then (2,0,travelErr t)
 else orE 3 (goNm ScV.name (venueErr t) 0 [] t.venues) (orE 4 (goEa (rightErr t) 0 t.rights) (orE 5 (goNm ScP.name (printErr t) 0 [] t.prints) (orE 6 (goNm ScPk.name packErr 0 [] t.packs)
  (orE 7 (goEa (keyErr t) 0 t.keys) (orE 8 (goEa (loanErr t) 0 t.loans) (0,0,0)))))))
def errSc (t:ScT):Int:=(checkSc t).2.2
def spVs (s:Sp):List Value:=[i64 s.lo,i64 s.hi]
def ScVR (_:Heap)(row:List Value)(v:ScV):Prop:=row=[str v.name,i64 v.land,i64 v.proj,i64 v.speeds.lo,i64 v.speeds.hi,i64 v.change,i64 v.spool,i64 v.turn,.bool v.digital]
def ScRR (_:Heap)(row:List Value)(r:ScR):Prop:=row=[str r.work,str r.version,i64 r.land,i64 r.days.lo,i64 r.days.hi]
def ScPR (h:Heap)(row:List Value)(p:ScP):Prop:=∃a c,row=[str p.name,str p.work,str p.version,.slice a p.reels.length c,i64 p.speeds.lo,i64 p.speeds.hi,i64 p.land]/\IntsAt h a p.reels
def ScPkR (_:Heap)(row:List Value)(p:ScPk):Prop:=row=[str p.name,str p.work,str p.version,i64 p.frames,i64 p.speed]
def ScKR (_:Heap)(row:List Value)(k:ScK):Prop:=row=[i64 k.pack,i64 k.venue,i64 k.window.lo,i64 k.window.hi]
def ScLR (_:Heap)(row:List Value)(l:ScL):Prop:=row=[i64 l.print,i64 l.venue,i64 l.days.lo,i64 l.days.hi]
def ScTvR (h:Heap)(row:List Value)(l:List Int):Prop:=∃a c,row=[.slice a l.length c]/\IntsAt h a l
structure ParL {α:Type}(enc:α->Value)(h:Heap)(a:Option Addr)(l:List α)(cap:Nat):Prop where
 at':ListAt enc h a l
 le:l.length<=cap
 plain:l≠[]->∃b o,a=some ⟨b,o,none⟩
theorem ParL.ext {α:Type}{enc:α->Value}{h h':Heap}{a:Option Addr}{l:List α}{cap:Nat}(p:ParL enc h a l cap)(he:Ext h h'):ParL enc h' a l cap:=⟨p.at'.ext he,p.le,p.plain⟩
theorem ParL.take {α:Type}{enc:α->Value}{h:Heap}{a:Option Addr}{l:List α}{cap:Nat}(p:ParL enc h a l cap)(k:Nat):ListAt enc h a (l.take k):=by
 intro i hi
 simp only[List.length_take] at hi
 obtain⟨b,o,oa,e,hc⟩:=p.at' i (by omega)
 exact⟨b,o,oa,e,by simpa only[List.getElem_take] using hc⟩
def ScTAt (h:Heap)(row:List Value)(t:ScT):Prop:=∃al cl at' ct a1 c1 a2 c2 a3 c3 a4 c4 a5 c5 a6 c6,row=[i64 t.first,.slice al t.lands.length cl,.slice at' t.travel.length ct,.slice a1 t.venues.length c1,.slice a2 t.rights.length c2,.slice a3 t.prints.length c3,.slice a4 t.packs.length c4,.slice a5 t.keys.length c5,.slice a6 t.loans.length c6] ∧
 ParL str h al t.lands cl/\RowsAt 1 ScTvR h at' t.travel/\RowsAt 9 ScVR h a1 t.venues/\RowsAt 5 ScRR h a2 t.rights/\RowsAt 7 ScPR h a3 t.prints/\RowsAt 5 ScPkR h a4 t.packs/\RowsAt 4 ScKR h a5 t.keys/\RowsAt 4 ScLR h a6 t.loans
theorem ScPR.ext {h h':Heap}{row:List Value}{p:ScP}(a:ScPR h row p)(he:Ext h h'):ScPR h' row p:=by
 obtain⟨x,c,e,h1⟩:=a
 exact⟨x,c,e,h1.ext he⟩
theorem ScTvR.ext {h h':Heap}{row:List Value}{l:List Int}(a:ScTvR h row l)(he:Ext h h'):ScTvR h' row l:=by
 obtain⟨x,c,e,h1⟩:=a
 exact⟨x,c,e,h1.ext he⟩
theorem ScTAt.ext {h h':Heap}{row:List Value}{t:ScT}(a:ScTAt h row t)(he:Ext h h'):ScTAt h' row t:=by
 obtain⟨al,cl,at',ct,a1,c1,a2,c2,a3,c3,a4,c4,a5,c5,a6,c6,e,h1,h2,h3,h4,h5,h6,h7,h8⟩:=a
 exact⟨al,cl,at',ct,a1,c1,a2,c2,a3,c3,a4,c4,a5,c5,a6,c6,e,h1.ext he,RowsAt.ext (R:=ScTvR) (fun x y=>ScTvR.ext x y) h2 he,RowsAt.ext (R:=ScVR) (fun x _=>x) h3 he,RowsAt.ext (R:=ScRR) (fun x _=>x) h4 he,RowsAt.ext (R:=ScPR) (fun x y=>ScPR.ext x y) h5 he,RowsAt.ext (R:=ScPkR) (fun x _=>x) h6 he,RowsAt.ext (R:=ScKR) (fun x _=>x) h7 he,RowsAt.ext (R:=ScLR) (fun x _=>x) h8 he⟩
structure ScV.Fit (v:ScV):Prop where
 name:Len v.name
 land:I64 v.land
 proj:I64 v.proj
 speeds:I64 v.speeds.lo/\I64 v.speeds.hi
 change:I64 v.change
 spool:I64 v.spool
 turn:I64 v.turn
structure ScR.Fit (r:ScR):Prop where
 work:Len r.work
 version:Len r.version
 land:I64 r.land
 days:I64 r.days.lo/\I64 r.days.hi
structure ScP.Fit (p:ScP):Prop where
 name:Len p.name
 work:Len p.work
 version:Len p.version
 reels:Len p.reels
 reelsI:∀n∈p.reels,I64 n
 speeds:I64 p.speeds.lo/\I64 p.speeds.hi
 land:I64 p.land
structure ScPk.Fit (p:ScPk):Prop where
 name:Len p.name
 work:Len p.work
 version:Len p.version
 frames:I64 p.frames
 speed:I64 p.speed
structure ScK.Fit (k:ScK):Prop where
 pack:I64 k.pack
 venue:I64 k.venue
 window:I64 k.window.lo/\I64 k.window.hi
structure ScL.Fit (l:ScL):Prop where
 print:I64 l.print
 venue:I64 l.venue
 days:I64 l.days.lo/\I64 l.days.hi
structure ScT.Fit (t:ScT):Prop where
 first:I64 t.first
 lands:Len t.lands
 landsL:∀s∈t.lands,Len s
 travel:Len t.travel
 travelL:∀l∈t.travel,Len l/\∀n∈l,I64 n
 venues:Len t.venues
 venuesF:∀v∈t.venues,v.Fit
 rights:Len t.rights
 rightsF:∀r∈t.rights,r.Fit
 prints:Len t.prints
 printsF:∀p∈t.prints,p.Fit
 packs:Len t.packs
 packsF:∀p∈t.packs,p.Fit
 keys:Len t.keys
 keysF:∀k∈t.keys,k.Fit
 loans:Len t.loans
 loansF:∀l∈t.loans,l.Fit
end Go.Dw
/- SB: chapter 11 with no program in sight: loans: in whatever order those of one day are looked at. -/
namespace Go.Dw
open Go Go.Dx Go.Proofs
def noV:ScV:=⟨[],0,0,⟨0,0⟩,0,0,0,false⟩
def venLand (t:ScT)(v:Int):Int:=(t.venues.getD v.toNat noV).land
def trv (t:ScT)(a b:Int):Int:=(t.travel.getD a.toNat []).getD b.toNat 0
def stopG (t:ScT)(at':Int)(fr:Option Int)(y:ScL):Bool :=
 decide (trv t at' (venLand t y.venue)<0) || (match fr with|none=>false|some f=>decide (y.days.lo-f<=trv t at' (venLand t y.venue)))
def goG (t:ScT):Int->Option Int->List ScL->Option Int
 | at',_,[]=>some at'
 | at',fr,y::l=>if stopG t at' fr y=true then none else goG t (venLand t y.venue) (some y.days.hi) l
def canG (t:ScT)(home:Int)(l:List ScL):Bool:=match goG t home none l with|none=>false|some at'=>decide (0<=trv t at' home)
def loLe (a b:ScL):Prop:=a.days.lo<=b.days.lo
theorem goG_twice {t:ScT}:∀{l:List ScL}{at':Int}{fr:Option Int},l.Pairwise loLe->(∀y∈l,y.days.lo<=y.days.hi)->¬(l.map fun y=>y.days.lo).Nodup->goG t at' fr l=none
 | [],_,_,_,_,h=>absurd List.nodup_nil h
 | [y],_,_,_,_,h=>absurd (by simp) h
 | y::z::l,at',fr,hs,hv,h=>by
  rw[goG]
  split
  ·rfl
  rw[List.pairwise_cons] at hs
  by_cases e:z.days.lo=y.days.lo
  ·rw[goG,if_pos]
   unfold stopG
   have:=hv y List.mem_cons_self
   by_cases n0:trv t (venLand t y.venue) (venLand t z.venue)<0
   ·rw[decide_eq_true n0];rfl
   ·simp only[Bool.or_eq_true,decide_eq_true_eq]
    right
    omega
  ·refine goG_twice hs.2 (fun x hx=>hv x (List.mem_cons_of_mem _ hx)) fun hn=>h ?_
   rw[List.map_cons,List.nodup_cons]
   refine⟨fun hm=>?_,hn⟩
   obtain⟨x,hx,ex⟩:=List.mem_map.1 hm
   have h1:=hs.1 z List.mem_cons_self
   unfold loLe at h1
   rcases List.mem_cons.1 hx with rfl|hx
   ·exact e ex
   ·have h2:=(List.pairwise_cons.1 hs.2).1 x hx
    unfold loLe at h2
    omega
theorem canG_twice {t:ScT}{home:Int}{l:List ScL}(hs:l.Pairwise loLe)(hv:∀y∈l,y.days.lo<=y.days.hi)(h:¬(l.map fun y=>y.days.lo).Nodup):canG t home l=false:=by
 unfold canG
 rw[goG_twice hs hv h]
theorem sorted_perm_eq {α:Type}{R:α->α->Prop}(hR:∀a b,R a b->R b a->False):∀{l l':List α},l.Perm l'->l.Pairwise R->l'.Pairwise R->l=l'
 | [],l',hp,_,_=>(List.Perm.nil_eq hp)
 | a::l,l',hp,hs,hs'=>by
  cases l' with
  | nil=>exact absurd hp.length_eq (by simp)
  | cons b l' =>
   rw[List.pairwise_cons] at hs hs'
   have e:a=b:=by
    rcases List.mem_cons.1 (hp.subset List.mem_cons_self) with e|g
    ·exact e
    ·rcases List.mem_cons.1 (hp.symm.subset List.mem_cons_self) with e|k
     ·exact e.symm
     ·exact (hR _ _ (hs.1 b k) (hs'.1 a g)).elim
   subst e
   rw[sorted_perm_eq hR ((List.perm_cons a).1 hp) hs.2 hs'.2]
theorem lt_of_nodup {l:List ScL}(hs:l.Pairwise loLe)(hn:(l.map fun y=>y.days.lo).Nodup):l.Pairwise fun a b=>a.days.lo<b.days.lo:=by
 induction l with
 | nil=>exact .nil
 | cons a l ih =>
  rw[List.pairwise_cons] at hs ⊢
  rw[List.map_cons,List.nodup_cons] at hn
  refine⟨fun b hb=>?_,ih hs.2 hn.2⟩
  have h1:=hs.1 b hb
  unfold loLe at h1
  have:a.days.lo≠b.days.lo:=fun e=>hn.1 (List.mem_map.2 ⟨b,hb,e.symm⟩)
  omega
theorem canG_perm {t:ScT}{home:Int}{l l':List ScL}(hp:l.Perm l')(hs:l.Pairwise loLe)(hs':l'.Pairwise loLe)(hv:∀y∈l,y.days.lo<=y.days.hi):canG t home l=canG t home l':=by
 by_cases hn:(l.map fun y=>y.days.lo).Nodup
 ·have hn':(l'.map fun y=>y.days.lo).Nodup:=(hp.map _).nodup_iff.1 hn
  rw[sorted_perm_eq (R:=fun a b:ScL=>a.days.lo<b.days.lo) (fun a b h1 h2=>by omega) hp (lt_of_nodup hs hn) (lt_of_nodup hs' hn')]
 ·have hn':¬(l'.map fun y=>y.days.lo).Nodup:=fun h=>hn ((hp.map _).nodup_iff.2 h)
  rw[canG_twice hs hv hn,canG_twice hs' (fun y hy=>hv y (hp.symm.subset hy)) hn']
def insG (g:ScL)(l:List ScL):List ScL:=l.takeWhile (fun y=>decide (y.days.lo<g.days.lo))++g::l.dropWhile (fun y=>decide (y.days.lo<g.days.lo))
theorem insG_perm (g:ScL)(l:List ScL):(insG g l).Perm (g::l):=by
 unfold insG
 have h:=List.takeWhile_append_dropWhile (p:=fun y:ScL=>decide (y.days.lo<g.days.lo)) (l:=l)
 refine List.perm_middle.trans ?_
 rw[h]
theorem insG_sorted {g:ScL}:∀{l:List ScL},l.Pairwise loLe->(insG g l).Pairwise loLe
 | [],_=>by unfold insG;simp
 | a::l,hs=>by
  rw[List.pairwise_cons] at hs
  by_cases c:a.days.lo<g.days.lo
  ·have e:insG g (a::l)=a::insG g l:=by unfold insG;rw[List.takeWhile_cons_of_pos (by simpa using c),List.dropWhile_cons_of_pos (by simpa using c)];rfl
   rw[e,List.pairwise_cons]
   refine⟨fun b hb=>?_,insG_sorted hs.2⟩
   rcases List.mem_cons.1 ((insG_perm g l).subset hb) with rfl|hb
   ·exact Int.le_of_lt c
   ·exact hs.1 b hb
  ·have e:insG g (a::l)=g::a::l:=by unfold insG;rw[List.takeWhile_cons_of_neg (by simpa using c),List.dropWhile_cons_of_neg (by simpa using c)];rfl
   rw[e,List.pairwise_cons,List.pairwise_cons]
   refine⟨fun b hb=>?_,hs⟩
   rcases List.mem_cons.1 hb with rfl|hb
   ·unfold loLe;omega
   ·have:=hs.1 b hb
    unfold loLe at this ⊢
    omega
def ofG (granted:List ScL)(x:ScL):List ScL:=granted.foldl (fun l g=>if g.print=x.print then insG g l else l) [x]
theorem ofG_sorted {granted:List ScL}{x:ScL}:(ofG granted x).Pairwise loLe:=by
 unfold ofG
 have:∀(l:List ScL),l.Pairwise loLe->(granted.foldl (fun l g=>if g.print=x.print then insG g l else l) l).Pairwise loLe:=by
  induction granted with
  | nil=>exact fun _ h=>h
  | cons g gs ih =>
   intro l hl
   rw[List.foldl_cons]
   refine ih _ ?_
   split
   ·exact insG_sorted hl
   ·exact hl
 exact this _ (by simp)
theorem ofG_perm {granted:List ScL}{x:ScL}:(ofG granted x).Perm (x::granted.filter fun g=>decide (g.print=x.print)):=by
 unfold ofG
 have:∀(l:List ScL),(granted.foldl (fun l g=>if g.print=x.print then insG g l else l) l).Perm (l++granted.filter fun g=>decide (g.print=x.print)):=by
  induction granted with
  | nil=>exact fun l=>by simp
  | cons g gs ih =>
   intro l
   rw[List.foldl_cons,List.filter_cons]
   by_cases c:g.print=x.print
   ·rw[if_pos c,if_pos (by simpa using c)]
    refine (ih _).trans ?_
    refine ((insG_perm g l).append_right _).trans ?_
    rw[List.cons_append]
    exact List.perm_middle.symm
   ·rw[if_neg c,if_neg (by simpa using c)]
    exact ih _
 exact this [x]
def noP:ScP:=⟨[],[],[],[],⟨0,0⟩,0⟩
def homeG (t:ScT)(p:Int):Int:=(t.prints.getD p.toNat noP).land
def grantS (t:ScT)(granted:List ScL)(x:ScL):Bool:=canG t (homeG t x.print) (ofG granted x)
def loansS (t:ScT):List ScL×List Int:=t.loans.foldl (fun s x=>if grantS t s.1 x=true then (s.1++[x],s.2++[0]) else (s.1,s.2++[210])) ([],[])
end Go.Dw
/- SC: chapter 11 with no program in sight: shows: how long, why not, which are kept. -/
namespace Go.Dw
open Go Go.Dx Go.Proofs
structure ScS where
 venue:Int
 print:Int
 pack:Int
 minute:Int
 speed:Int
 worth:Int
def ScSR (_:Heap)(row:List Value)(s:ScS):Prop:=row=[i64 s.venue,i64 s.print,i64 s.pack,i64 s.minute,i64 s.speed,i64 s.worth]
structure ScS.Fit (s:ScS):Prop where
 venue:I64 s.venue
 print:I64 s.print
 pack:I64 s.pack
 minute:I64 s.minute
 speed:I64 s.speed
 worth:I64 s.worth
def noPk:ScPk:=⟨[],[],[],0,0⟩
def venAt (t:ScT)(s:ScS):ScV:=t.venues.getD s.venue.toNat noV
def prAt (t:ScT)(s:ScS):ScP:=t.prints.getD s.print.toNat noP
def pkAt (t:ScT)(s:ScS):ScPk:=t.packs.getD s.pack.toNat noPk
def shownErr (t:ScT)(s:ScS):Int :=
 if s.venue<0\/(t.venues.length:Int)-1<s.venue then 4 else if (s.print = -1 ↔ s.pack = -1) then 2
 else if (s.print ≠ -1/\(s.print<0\/(t.prints.length:Int)-1<s.print))\/(s.pack ≠ -1/\(s.pack<0\/(t.packs.length:Int)-1<s.pack)) then 4
 else if (s.minute<0\/57600<s.minute)\/(s.speed<1\/60<s.speed)\/(s.worth<0\/1000000<s.worth) then 7 else 0
def upS (a b:Int):Int:=(a+b-1) / b
theorem upS_eq {a b:Int}(hb:1<=b):upS a b=(a-1) / b+1:=by
 unfold upS
 rw[show a+b-1=(a-1)+1*b by omega,Int.add_mul_ediv_right _ _ (by omega)]
theorem upS_pos {a b:Int}(ha:1<=a)(hb:1<=b):1<=upS a b:=by
 rw[upS_eq hb]
 have:=Int.ediv_nonneg (show 0<=a-1 by omega) (show 0<=b by omega)
 omega
theorem upS_le {a b:Int}(ha:1<=a)(hb:1<=b):upS a b<=a:=by
 rw[upS_eq hb]
 have:=Int.ediv_le_self b (show 0<=a-1 by omega)
 omega
theorem upS_up {a b:Int}(hb:1<=b):upS (upS a b) 60=upS a (60*b):=by
 rw[upS_eq (show (1:Int)<=60 by decide),upS_eq hb,upS_eq (show 1<=60*b by omega),show (a-1) / b+1-1=(a-1) / b by omega,Int.ediv_ediv_of_nonneg (by omega),Int.mul_comm]
def secsS (l:List Int)(speed:Int):Int:=(l.map fun n=>upS n speed).sum
def longS (t:ScT)(s:ScS):Int :=
 if 0<=s.pack then upS (upS (pkAt t s).frames s.speed) 60
 else if (venAt t s).proj<2 then upS (secsS (prAt t s).reels s.speed) 60+(venAt t s).change*(((prAt t s).reels.length:Int)-1) else upS (secsS (prAt t s).reels s.speed) 60
def inSp (s all:Sp):Prop:=all.lo<=s.lo/\s.hi<=all.hi
instance (s all:Sp):Decidable (inSp s all):=inferInstanceAs (Decidable (_/\_))
def endS (t:ScT)(s:ScS):Int:=s.minute+longS t s
def daysS (t:ScT)(s:ScS):Sp:=⟨t.first+s.minute / 1440,t.first+(endS t s-1) / 1440⟩
def workS (t:ScT)(s:ScS):List UInt8:=if 0<=s.print then (prAt t s).work else (pkAt t s).work
def versS (t:ScT)(s:ScS):List UInt8:=if 0<=s.print then (prAt t s).version else (pkAt t s).version
def rightB (t:ScT)(s:ScS):Bool:=t.rights.any fun r=>decide (r.work=workS t s/\(r.version=[]\/r.version=versS t s)/\r.land=(venAt t s).land/\inSp (daysS t s) r.days)
def hereB (t:ScT)(s:ScS):Bool:=(loansS t).1.any fun l=>decide (l.print=s.print/\l.venue=s.venue/\inSp (daysS t s) l.days)
def filmS (t:ScT)(s:ScS):Int :=
 if hereB t s=false then 212 else if (venAt t s).proj=0\/¬((venAt t s).speeds.lo<=s.speed/\s.speed<=(venAt t s).speeds.hi)\/¬((prAt t s).speeds.lo<=s.speed/\s.speed<=(prAt t s).speeds.hi) then 215
 else if ((prAt t s).reels.any fun n=>decide ((venAt t s).spool<n))=true then 216 else 0
def keyB (t:ScT)(s:ScS):Bool:=t.keys.any fun k=>decide (k.pack=s.pack/\k.venue=s.venue/\inSp ⟨s.minute,endS t s⟩ k.window)
def digiS (t:ScT)(s:ScS):Int :=
 if (venAt t s).digital=false then 213 else if keyB t s=false then 214 else if s.speed≠(pkAt t s).speed then 215 else 0
def whyS (t:ScT)(s:ScS):Int:=if rightB t s=false then 211 else if 0<=s.print then filmS t s else digiS t s
def overS (t:ScT)(s:ScS):Int:=endS t s+(venAt t s).turn
def distB (t:ScT)(a b:ScS):Bool:=decide (a.venue=b.venue/\a.minute<overS t b/\b.minute<overS t a)
def busyS (t:ScT)(kept:List ScS)(s:ScS):Int:=if whyS t s≠0 then whyS t s else if (kept.any fun k=>distB t k s)=true then 217 else 0
def playS (t:ScT)(l:List ScS):List ScS×List Int:=l.foldl (fun p s=>(if busyS t p.1 s=0 then p.1++[s] else p.1,p.2++[busyS t p.1 s])) ([],[])
def listedS (t:ScT)(l:List ScS):Int:=if errSc t≠0 then errSc t else if 40<l.length then 3 else match l.find? fun s=>decide (shownErr t s≠0) with|some s=>shownErr t s|none=>0
theorem snocInd {α:Type}{p:List α->Prop}(h0:p [])(h1:∀l x,p l->p (l++[x]))(l:List α):p l:=by
 have:∀r:List α,p r.reverse:=fun r=>by
  induction r with
  | nil=>exact h0
  | cons x r ih=>rw[List.reverse_cons];exact h1 _ x ih
 have h:=this l.reverse
 rwa [List.reverse_reverse] at h
theorem playS_snoc (t:ScT)(l:List ScS)(s:ScS):playS t (l++[s])=(if busyS t (playS t l).1 s=0 then (playS t l).1++[s] else (playS t l).1,(playS t l).2++[busyS t (playS t l).1 s]):=by
 unfold playS
 rw[List.foldl_append];rfl
theorem play_len (t:ScT)(l:List ScS):(playS t l).2.length=l.length/\(playS t l).1.length<=l.length/\∀s∈(playS t l).1,s∈l/\whyS t s=0:=by
 refine snocInd (p:=fun l=>(playS t l).2.length=l.length/\(playS t l).1.length<=l.length/\∀s∈(playS t l).1,s∈l/\whyS t s=0) ⟨rfl,Nat.le_refl _,fun _ h=>nomatch h⟩ (fun l s ih=>?_) l
 obtain⟨i1,i2,i3⟩:=ih
 rw[playS_snoc]
 refine⟨by simp[i1],?_,fun x hx=>?_⟩
 ·simp only[List.length_append,List.length_singleton]
  split
  ·simp only[List.length_append,List.length_singleton];omega
  ·omega
 ·simp only at hx
  split at hx
  ·rename_i hb
   rcases List.mem_append.1 hx with g|g
   ·exact⟨List.mem_append_left _ (i3 x g).1,(i3 x g).2⟩
   ·rw[List.mem_singleton.1 g]
    refine⟨by simp,?_⟩
    unfold busyS at hb
    split at hb
    ·rename_i h1;exact absurd hb h1
    ·rename_i h1;exact Classical.byContradiction h1
  ·exact⟨List.mem_append_left _ (i3 x hx).1,(i3 x hx).2⟩
theorem busy_zero {t:ScT}{kept:List ScS}{s:ScS}:busyS t kept s=0 ↔ whyS t s=0/\∀k∈kept,distB t k s=false:=by
 unfold busyS
 constructor
 ·intro h
  split at h
  ·rename_i h1;exact absurd h h1
  ·rename_i h1
   split at h
   ·cases h
   ·rename_i h2
    refine⟨Classical.byContradiction h1,fun k hk=>?_⟩
    cases hd:distB t k s
    ·rfl
    ·exact absurd (List.any_eq_true.2 ⟨k,hk,hd⟩) h2
 ·rintro⟨h1,h2⟩
  rw[if_neg (fun h=>h h1),if_neg fun h=>?_]
  obtain⟨k,hk,hd⟩:=List.any_eq_true.1 h
  rw[h2 k hk] at hd
  cases hd
theorem play_kept (t:ScT)(l:List ScS):(∀s∈(playS t l).1,whyS t s=0)/\(playS t l).1.Pairwise fun a b=>distB t a b=false:=by
 refine snocInd (p:=fun l=>(∀s∈(playS t l).1,whyS t s=0)/\(playS t l).1.Pairwise fun a b=>distB t a b=false) ⟨(fun _ h=>nomatch h),.nil⟩ (fun l s ih=>?_) l
 obtain⟨i1,i2⟩:=ih
 rw[playS_snoc]
 simp only
 split
 ·rename_i h
  obtain⟨h1,h2⟩:=busy_zero.1 h
  refine⟨fun x hx=>?_,List.pairwise_append.2 ⟨i2,by simp,fun a ha b hb=>?_⟩⟩
  ·rcases List.mem_append.1 hx with g|g
   ·exact i1 x g
   ·rw[List.mem_singleton.1 g];exact h1
  ·rw[List.mem_singleton.1 hb];exact h2 a ha
 ·exact⟨i1,i2⟩
theorem play_all (t:ScT)(l:List ScS)(h1:∀s∈l,whyS t s=0)(h2:l.Pairwise fun a b=>distB t a b=false):(playS t l).1=l:=by
 refine snocInd (p:=fun l=>(∀s∈l,whyS t s=0)->(l.Pairwise fun a b=>distB t a b=false)->(playS t l).1=l) (fun _ _=>rfl) (fun l s ih h1 h2=>?_) l h1 h2
 rw[List.pairwise_append] at h2
 have e:=ih (fun x hx=>h1 x (List.mem_append_left _ hx)) h2.1
 rw[playS_snoc]
 simp only
 rw[e,if_pos (busy_zero.2 ⟨h1 s (by simp),fun k hk=>h2.2.2 k hk s (by simp)⟩)]
theorem distB_comm (t:ScT)(a b:ScS):distB t a b=distB t b a:=by
 unfold distB
 rw[decide_eq_decide]
 constructor <;> rintro⟨h1,h2,h3⟩ <;> exact⟨h1.symm,h3,h2⟩
end Go.Dw
/- SD: chapter 11 with no program in sight: what is right with a task; how long shows take. -/
namespace Go.Dw
open Go Go.Dx Go.Proofs
theorem goNm_e {α:Type}{nm:α->List UInt8}{wrong:α->Int}:∀{l:List α}{i:Nat}{b:List (List UInt8)}{x:Nat×Int},goNm nm wrong i b l=some x->x.2≠0
 | [],_,_,_,h=>nomatch h
 | a::l,i,b,x,h=>by
  rw[goNm] at h
  split at h
  ·rename_i h1;cases h;exact h1
  ·split at h
   ·rename_i h1;cases h;exact h1
   ·exact goNm_e h
theorem goNm_none {α:Type}{nm:α->List UInt8}{wrong:α->Int}:∀{l:List α}{i:Nat}{b:List (List UInt8)},goNm nm wrong i b l=none->∀x∈l,wrong x=0
 | [],_,_,_,_,hx=>nomatch hx
 | a::l,i,b,h,x,hx=>by
  rw[goNm] at h
  split at h
  ·cases h
  ·split at h
   ·cases h
   ·rename_i h1
    rcases List.mem_cons.1 hx with rfl|g
    ·exact Classical.not_not.1 h1
    ·exact goNm_none h x g
theorem goEa_e {α:Type}{wrong:α->Int}:∀{l:List α}{i:Nat}{x:Nat×Int},goEa wrong i l=some x->x.2≠0
 | [],_,_,h=>nomatch h
 | a::l,i,x,h=>by
  rw[goEa] at h
  split at h
  ·rename_i h1;cases h;exact h1
  ·exact goEa_e h
theorem goEa_none {α:Type}{wrong:α->Int}:∀{l:List α}{i:Nat},goEa wrong i l=none->∀x∈l,wrong x=0
 | [],_,_,_,hx=>nomatch hx
 | a::l,i,h,x,hx=>by
  rw[goEa] at h
  split at h
  ·cases h
  ·rename_i h1
   rcases List.mem_cons.1 hx with rfl|g
   ·exact Classical.not_not.1 h1
   ·exact goEa_none h x g
theorem orE_zero {part:Int}{o:Option (Nat×Int)}{x:Int×Int×Int}(ho:∀y,o=some y->y.2≠0)(h:(orE part o x).2.2=0):o=none/\x.2.2=0:=by
 cases o with
 | none=>exact⟨rfl,h⟩
 | some y=>exact absurd h (ho y rfl)
structure ScOk (t:ScT):Prop where
 first:0<=t.first/\t.first<=80000
 lands:1<=t.lands.length/\t.lands.length<=8
 venues1:1<=t.venues.length/\t.venues.length<=8
 rights1:t.rights.length<=30
 prints1:t.prints.length<=12
 packs1:t.packs.length<=12
 keys1:t.keys.length<=30
 loans1:t.loans.length<=30
 travel:travelErr t=0
 venues:∀v∈t.venues,venueErr t v=0
 rights:∀r∈t.rights,rightErr t r=0
 prints:∀p∈t.prints,printErr t p=0
 packs:∀p∈t.packs,packErr p=0
 keys:∀k∈t.keys,keyErr t k=0
 loans:∀l∈t.loans,loanErr t l=0
theorem sc_ok {t:ScT}(h:errSc t=0):ScOk t:=by
 unfold errSc checkSc at h
 split at h
 ·cases h
 rename_i h1
 split at h
 ·cases h
 rename_i h2
 obtain⟨_,h⟩:=orE_zero (fun _=>goNm_e) h
 split at h
 ·rename_i h3;exact absurd h h3
 rename_i h3
 obtain⟨a3,h⟩:=orE_zero (fun _=>goNm_e) h
 obtain⟨a4,h⟩:=orE_zero (fun _=>goEa_e) h
 obtain⟨a5,h⟩:=orE_zero (fun _=>goNm_e) h
 obtain⟨a6,h⟩:=orE_zero (fun _=>goNm_e) h
 obtain⟨a7,h⟩:=orE_zero (fun _=>goEa_e) h
 obtain⟨a8,h⟩:=orE_zero (fun _=>goEa_e) h
 exact⟨by omega,by omega,by omega,by omega,by omega,by omega,by omega,by omega,Classical.not_not.1 h3,goNm_none a3,goEa_none a4,goNm_none a5,goNm_none a6,goEa_none a7,goEa_none a8⟩
theorem venue_ok {t:ScT}{v:ScV}(h:venueErr t v=0):(0<=v.land/\v.land<t.lands.length)/\(0<=v.proj/\v.proj<=2)/\(0<=v.change/\v.change<=60)/\(0<=v.turn/\v.turn<=60)/\(1<=v.spool/\v.spool<=200000)/\oddS v.speeds 1 60=0:=by
 unfold venueErr at h
 split at h
 ·cases h
 rename_i ha
 unfold abroad at ha
 split at h
 ·cases h
 exact⟨by omega,by omega,by omega,by omega,by omega,h⟩
theorem print_ok {t:ScT}{p:ScP}(h:printErr t p=0):(1<=p.reels.length/\p.reels.length<=12)/\(∀n∈p.reels,1<=n/\n<=200000)/\oddS p.speeds 1 60=0/\(0<=p.land/\p.land<t.lands.length):=by
 unfold printErr at h
 split at h
 ·cases h
 split at h
 ·cases h
 split at h
 ·cases h
 rename_i h3
 split at h
 ·rename_i h4;exact absurd h h4
 rename_i h4
 split at h
 ·cases h
 rename_i ha
 unfold abroad at ha
 refine⟨by omega,fun n hn=>?_,Classical.not_not.1 h4,by omega⟩
 have h5:(p.reels.any fun n=>decide (n<1\/200000<n))=false:=by
  cases hq:p.reels.any fun n=>decide (n<1\/200000<n)
  ·rfl
  ·exact absurd hq h3
 rw[List.any_eq_false] at h5
 have:=h5 n hn
 simp only[decide_eq_true_eq] at this
 omega
theorem pack_ok {p:ScPk}(h:packErr p=0):(1<=p.frames/\p.frames<=2400000)/\(1<=p.speed/\p.speed<=60):=by
 unfold packErr at h
 split at h
 ·cases h
 split at h
 ·cases h
 omega
theorem shown_ok {t:ScT}{s:ScS}(h:shownErr t s=0):(0<=s.venue/\s.venue<t.venues.length)/\((0<=s.print/\s.print<t.prints.length/\s.pack = -1)\/(0<=s.pack/\s.pack<t.packs.length/\s.print = -1))/\(0<=s.minute/\s.minute<=57600)/\(1<=s.speed/\s.speed<=60)/\(0<=s.worth/\s.worth<=1000000):=by
 unfold shownErr at h
 split at h
 ·cases h
 split at h
 ·cases h
 rename_i h2
 split at h
 ·cases h
 split at h
 ·cases h
 refine⟨by omega,?_,by omega,by omega,by omega⟩
 by_cases c:s.print = -1
 ·by_cases d:s.pack = -1
  ·exact absurd ⟨fun _=>d,fun _=>c⟩ h2
  ·exact .inr ⟨by omega,by omega,c⟩
 ·by_cases d:s.pack = -1
  ·exact .inl ⟨by omega,by omega,d⟩
  ·exact absurd ⟨fun e=>absurd e c,fun e=>absurd e d⟩ h2
theorem getD_mem {α:Type}{l:List α}{n:Int}{d:α}(h0:0<=n)(h1:n<l.length):l.getD n.toNat d∈l:=by
 have h:n.toNat<l.length:=by omega
 rw[List.getD_eq_getElem?_getD,List.getElem?_eq_getElem h]
 exact List.getElem_mem h
theorem ven_ok {t:ScT}(hO:ScOk t){s:ScS}(h:shownErr t s=0):venueErr t (venAt t s)=0:=hO.venues _ (getD_mem (shown_ok h).1.1 (shown_ok h).1.2)
theorem pr_ok {t:ScT}(hO:ScOk t){s:ScS}(h:shownErr t s=0)(hp:s.pack = -1):printErr t (prAt t s)=0:=by
 rcases (shown_ok h).2.1 with ⟨h1,h2,_⟩|⟨h1,_,_⟩
 ·exact hO.prints _ (getD_mem h1 h2)
 ·omega
theorem pk_ok {t:ScT}(hO:ScOk t){s:ScS}(h:shownErr t s=0)(hp:0<=s.pack):packErr (pkAt t s)=0:=by
 rcases (shown_ok h).2.1 with ⟨_,_,h1⟩|⟨h1,h2,_⟩
 ·omega
 ·exact hO.packs _ (getD_mem h1 h2)
theorem secs_rng {l:List Int}{speed:Int}(hs:1<=speed)(hl:∀n∈l,1<=n/\n<=200000):(l.length:Int)<=secsS l speed/\secsS l speed<=200000*l.length:=by
 unfold secsS
 induction l with
 | nil=>exact⟨Int.le_refl _,Int.le_refl _⟩
 | cons a l ih =>
  have h1:=ih fun n hn=>hl n (List.mem_cons_of_mem _ hn)
  have h2:=hl a List.mem_cons_self
  have h3:=upS_pos h2.1 hs
  have h4:=upS_le h2.1 hs
  simp only[List.map_cons,List.sum_cons,List.length_cons]
  omega
theorem long_rng {t:ScT}(hO:ScOk t){s:ScS}(h:shownErr t s=0):1<=longS t s/\longS t s<=100000:=by
 obtain⟨_,hpp,_,hsp,_⟩:=shown_ok h
 obtain⟨_,_,hch,_⟩:=venue_ok (ven_ok hO h)
 unfold longS
 split
 ·rename_i hp
  obtain⟨h1,_⟩:=pack_ok (pk_ok hO h hp)
  have h2:=upS_pos h1.1 hsp.1
  have h3:=upS_le h1.1 hsp.1
  have h4:=upS_pos h2 (show (1:Int)<=60 by decide)
  refine⟨h4,?_⟩
  rw[upS_eq (by decide)]
  omega
 ·rename_i hp
  have hp':s.pack = -1:=by omega
  obtain⟨h1,h2,_⟩:=print_ok (pr_ok hO h hp')
  have h3:=secs_rng hsp.1 h2
  have h4:=upS_pos (show 1<=secsS (prAt t s).reels s.speed by omega) (show (1:Int)<=60 by decide)
  have h5:upS (secsS (prAt t s).reels s.speed) 60<=40000:=by rw[upS_eq (by decide)];omega
  have h6:0<=(venAt t s).change*(((prAt t s).reels.length:Int)-1):=Int.mul_nonneg hch.1 (by omega)
  have h7:(venAt t s).change*(((prAt t s).reels.length:Int)-1)<=60*11:=Int.mul_le_mul hch.2 (by omega) (by omega) (by decide)
  split <;> omega
end Go.Dw
/- SN: chapter 11 with no program in sight: loans as the reference looks at them: the first way, the last way, and each between. -/
namespace Go.Dw
open Go Go.Dx Go.Proofs
def vlG (t:ScT)(y:ScL):Int:=venLand t y.venue
def badP (t:ScT)(a b:ScL):Prop:=trv t (vlG t a) (vlG t b)<0\/b.days.lo-a.days.hi<=trv t (vlG t a) (vlG t b)
instance (t:ScT)(a b:ScL):Decidable (badP t a b):=inferInstanceAs (Decidable (_\/_))
def chainG (t:ScT):ScL->List ScL->Bool
 | _,[]=>true
 | a,b::l=>!decide (badP t a b) && chainG t b l
def lastG:ScL->List ScL->ScL
 | a,[]=>a
 | _,b::l=>lastG b l
def awayG (t:ScT)(home:Int)(L:List ScL):Prop:=∃h:0<L.length,(trv t home (vlG t L[0])<0\/trv t (vlG t (L[L.length-1]'(by omega))) home<0)\/∃j,∃hj:j+1<L.length,badP t (L[j]'(by omega)) L[j+1]
def ofGk (granted:List ScL)(x:ScL)(k:Nat):List ScL:=ofG (granted.take k) x
end Go.Dw
/- SE: chapter 11 with no program in sight: laws of ScreenTimes, ScreenLent. -/
namespace Go.Dw
open Go Go.Dx Go.Proofs
def namesSc:List (List UInt8)->List (List UInt8)->Prop
 | _,[]=>True
 | b,s::l=>nameErr s b=0/\namesSc (b++[s]) l
def twoV (v:ScV):ScV:=⟨v.name,v.land,2,v.speeds,v.change,v.spool,v.turn,v.digital⟩
def twoT (t:ScT)(k:Nat):ScT:=⟨t.first,t.lands,t.travel,t.venues.set k (twoV (t.venues.getD k noV)),t.rights,t.prints,t.packs,t.keys,t.loans⟩
def ofP (G:List ScL)(p:Int):List ScL:=G.filter fun g=>decide (g.print=p)
def Chains (t:ScT)(G:List ScL):Prop:=∀p,ofP G p≠[]->∃S,S.Perm (ofP G p)/\S.Pairwise loLe/\canG t (homeG t p) S=true
def stepG (t:ScT)(s:List ScL×List Int)(x:ScL):List ScL×List Int:=if grantS t s.1 x=true then (s.1++[x],s.2++[0]) else (s.1,s.2++[210])
structure Grants (t:ScT)(l:List ScL)(s:List ScL×List Int):Prop where
 len:s.2.length=l.length
 chains:Chains t s.1
 sub:s.1=((l.zip s.2).filter fun p=>decide (p.2=0)).map Prod.fst
 vals:∀e∈s.2,e=0\/e=210
end Go.Dw
/- SG: the best of some intervals, with no program in sight. -/
namespace Go.Dw
open Go Go.Dx Go.Proofs
structure Iv where
 s:Int
 e:Int
 w:Int
structure Iv.Ok (x:Iv):Prop where
 s0:0<=x.s
 se:x.s<x.e
 w0:0<=x.w
def maxBy {α:Type}(p:α->Prop) [DecidablePred p](f:α->Int)(n0:Int)(l:List α):Int:=l.foldl (fun n x=>if p x then max n (f x) else n) n0
section
variable {α:Type}{p:α->Prop} [DecidablePred p]{f g:α->Int}
theorem maxBy_base:∀{l:List α}{n0:Int},n0<=maxBy p f n0 l
 | [],_=>Int.le_refl _
 | x::l,n0=>by
  unfold maxBy
  rw[List.foldl_cons]
  have h:=maxBy_base (l:=l) (n0:=if p x then max n0 (f x) else n0)
  refine Int.le_trans ?_ h
  split
  ·exact Int.le_max_left _ _
  ·exact Int.le_refl _
theorem maxBy_ge:∀{l:List α}{n0:Int}{x:α},x∈l->p x->f x<=maxBy p f n0 l
 | y::l,n0,x,hx,hp=>by
  unfold maxBy
  rw[List.foldl_cons]
  rcases List.mem_cons.1 hx with rfl|g
  ·rw[if_pos hp]
   exact Int.le_trans (Int.le_max_right _ _) maxBy_base
  ·exact maxBy_ge g hp
theorem maxBy_eq:∀{l:List α}{n0:Int},maxBy p f n0 l=n0\/∃x∈l,p x/\maxBy p f n0 l=f x
 | [],_=>.inl rfl
 | y::l,n0=>by
  have h:=maxBy_eq (l:=l) (n0:=if p y then max n0 (f y) else n0)
  have e:maxBy p f n0 (y::l)=maxBy p f (if p y then max n0 (f y) else n0) l:=rfl
  rw[e]
  rcases h with h|⟨x,hx,hp,h⟩
  ·by_cases hp:p y
   ·rw[h,if_pos hp]
    rcases Int.le_total n0 (f y) with g|g
    ·exact .inr ⟨y,List.mem_cons_self,hp,Int.max_eq_right g⟩
    ·exact .inl (Int.max_eq_left g)
   ·rw[h,if_neg hp];exact .inl rfl
  ·exact .inr ⟨x,List.mem_cons_of_mem _ hx,hp,h⟩
theorem maxBy_congr:∀{l:List α}{n0:Int},(∀x∈l,p x->f x=g x)->maxBy p f n0 l=maxBy p g n0 l
 | [],_,_=>rfl
 | y::l,n0,h=>by
  unfold maxBy
  rw[List.foldl_cons,List.foldl_cons]
  by_cases hp:p y
  ·rw[if_pos hp,if_pos hp,h y List.mem_cons_self hp]
   exact maxBy_congr fun x hx=>h x (List.mem_cons_of_mem _ hx)
  ·rw[if_neg hp,if_neg hp]
   exact maxBy_congr fun x hx=>h x (List.mem_cons_of_mem _ hx)
theorem maxBy_le {l:List α}{n0 c:Int}(h0:n0<=c)(h:∀x∈l,p x->f x<=c):maxBy p f n0 l<=c:=by
 rcases maxBy_eq (p:=p) (f:=f) (l:=l) (n0:=n0) with e|⟨x,hx,hp,e⟩
 ·rw[e];exact h0
 ·rw[e];exact h x hx hp
end
def mostF (l:List Iv):Nat->Int->Int
 | 0,_=>0
 | f+1,b=>maxBy (fun x:Iv=>x.e<=b) (fun x=>x.w+mostF l f x.s) 0 l
theorem mostF_same {l:List Iv}(hl:∀x∈l,x.Ok):∀{f g:Nat}{b:Int},b<f->b<g->0<=b->mostF l f b=mostF l g b
 | 0,_,_,h,_,h0=>by omega
 | _,0,_,_,h,h0=>by omega
 | f+1,g+1,b,h1,h2,h0=>by
  rw[mostF,mostF]
  refine maxBy_congr fun x hx hp=>?_
  have h:=hl x hx
  have hs:=h.s0
  have hse:=h.se
  rw[mostF_same hl (f:=f) (g:=g) (b:=x.s) (by omega) (by omega) hs]
def mostI (l:List Iv)(b:Int):Int:=mostF l (b.toNat+1) b
theorem mostI_eq {l:List Iv}(hl:∀x∈l,x.Ok){b:Int}(hb:0<=b):mostI l b=maxBy (fun x:Iv=>x.e<=b) (fun x=>x.w+mostI l x.s) 0 l:=by
 unfold mostI
 rw[mostF]
 refine maxBy_congr fun x hx hp=>?_
 have h:=hl x hx
 have hs:=h.s0
 have hse:=h.se
 rw[mostF_same hl (f:=b.toNat) (g:=x.s.toNat+1) (b:=x.s) (by omega) (by omega) hs]
theorem mostI_nonneg {l:List Iv}(hl:∀x∈l,x.Ok){b:Int}(hb:0<=b):0<=mostI l b:=by
 rw[mostI_eq hl hb];exact maxBy_base
theorem mostI_mono {l:List Iv}(hl:∀x∈l,x.Ok){b c:Int}(hb:0<=b)(hbc:b<=c):mostI l b<=mostI l c:=by
 rw[mostI_eq hl hb]
 refine maxBy_le (mostI_nonneg hl (by omega)) fun x hx hp=>?_
 rw[mostI_eq hl (show 0<=c by omega)]
 exact maxBy_ge (p:=fun x:Iv=>x.e<=c) (f:=fun x=>x.w+mostI l x.s) hx (show x.e<=c by omega)
def RowI (P:List Iv):Prop:=P.Pairwise fun a b=>a.e<=b.s
def sumW (P:List Iv):Int:=(P.map Iv.w).sum
theorem sumW_snoc (P:List Iv)(x:Iv):sumW (P++[x])=sumW P+x.w:=by
 unfold sumW
 rw[List.map_append,List.sum_append];simp
theorem row_le {l:List Iv}(hl:∀x∈l,x.Ok)(P:List Iv):∀{b:Int},0<=b->(∀x∈P,x∈l/\x.e<=b)->RowI P->sumW P<=mostI l b:=by
 refine snocInd (p:=fun P=>∀{b:Int},0<=b->(∀x∈P,x∈l/\x.e<=b)->RowI P->sumW P<=mostI l b) (fun hb _ _=>mostI_nonneg hl hb) (fun P x ih b hb hP hR=>?_) P
 obtain⟨hR1,_,hR2⟩:=List.pairwise_append.1 hR
 obtain⟨hx,hxb⟩:=hP x (by simp)
 have h1:=ih (b:=x.s) (hl x hx).s0 (fun y hy=>⟨(hP y (List.mem_append_left _ hy)).1,hR2 y hy x (by simp)⟩) hR1
 rw[sumW_snoc,mostI_eq hl hb]
 have h2:=maxBy_ge (p:=fun x:Iv=>x.e<=b) (f:=fun x=>x.w+mostI l x.s) (n0:=0) hx hxb
 omega
theorem row_best {l:List Iv}(hl:∀x∈l,x.Ok):∀(n:Nat){b:Int},0<=b->b<=n->∃P,(∀x∈P,x∈l/\x.e<=b)/\RowI P/\sumW P=mostI l b
 | n,b,hb,hn=>by
  rcases maxBy_eq (p:=fun x:Iv=>x.e<=b) (f:=fun x=>x.w+mostI l x.s) (l:=l) (n0:=0) with e|⟨x,hx,hp,e⟩
  ·exact⟨[],(fun _ h=>nomatch h),.nil,by rw[mostI_eq hl hb,e];rfl⟩
  ·have hok:=hl x hx
   have h1:=hok.s0
   have h2:=hok.se
   match n with
   | 0=>omega
   | n+1 =>
    obtain⟨P,hP,hR,hS⟩:=row_best hl n (b:=x.s) h1 (by omega)
    refine⟨P++[x],fun y hy=>?_,List.pairwise_append.2 ⟨hR,by simp,fun a ha c hc=>?_⟩,?_⟩
    ·rcases List.mem_append.1 hy with g|g
     ·have:=hP y g
      exact⟨this.1,by omega⟩
     ·rw[List.mem_singleton.1 g];exact⟨hx,hp⟩
    ·rw[List.mem_singleton.1 hc];exact (hP a ha).2
    ·rw[sumW_snoc,hS,mostI_eq hl hb,e]
     omega
theorem mostI_step {l:List Iv}(hl:∀x∈l,x.Ok){b:Int}(hb:1<=b)(hn:∀x∈l,x.e≠b):mostI l b=mostI l (b-1):=by
 refine Int.le_antisymm ?_ (mostI_mono hl (by omega) (by omega))
 rw[mostI_eq hl (show 0<=b by omega)]
 refine maxBy_le (mostI_nonneg hl (by omega)) fun x hx hp=>?_
 rw[mostI_eq hl (show 0<=b-1 by omega)]
 have h1:=hn x hx
 exact maxBy_ge (p:=fun x:Iv=>x.e<=b-1) (f:=fun x=>x.w+mostI l x.s) hx (show x.e<=b-1 by omega)
def priceI (l:List Iv)(e:Int):Int:=mostI l e-mostI l (e-1)
theorem price_sum {l:List Iv}(hl:∀x∈l,x.Ok):∀{E:List Int}{a b:Int},E.Pairwise (· < ·)->(∀x∈l,x.e∈E)->(∀e∈E,1<=e)->0<=a->a<=b->((E.filter fun e=>decide (a<e/\e<=b)).map (priceI l)).sum=mostI l b-mostI l a:=by
 intro E a b hE hl2 hE1 ha hab
 obtain⟨n,hn⟩:∃n:Nat,b=a+n:=⟨(b-a).toNat,by omega⟩
 clear hab
 induction n generalizing b with
 | zero =>
  have:b=a:=by omega
  subst this
  have e:(E.filter fun e=>decide (b<e/\e<=b))=[]:=by
   rw[List.filter_eq_nil_iff]
   intro x _
   simp only[decide_eq_true_eq]
   omega
  rw[e];simp
 | succ n ih =>
  have ih1:=ih (b:=a+n) rfl
  clear ih
  by_cases hm:b∈E
  ·have e:(E.filter fun e=>decide (a<e/\e<=b))=(E.filter fun e=>decide (a<e/\e<=a+n))++[b]:=by
    clear ih1 hl2 hE1
    induction E with
    | nil=>nomatch hm
    | cons c E ih2 =>
     rw[List.pairwise_cons] at hE
     rcases List.mem_cons.1 hm with rfl|g
     ·rw[List.filter_cons,if_pos (by simp only[decide_eq_true_eq];omega),List.filter_cons,if_neg (by simp only[decide_eq_true_eq];omega)]
      have e1:(E.filter fun e=>decide (a<e/\e<=b))=[]:=by
       rw[List.filter_eq_nil_iff]
       intro x hx
       have:=hE.1 x hx
       simp only[decide_eq_true_eq];omega
      have e2:(E.filter fun e=>decide (a<e/\e<=a+n))=[]:=by
       rw[List.filter_eq_nil_iff]
       intro x hx
       have:=hE.1 x hx
       simp only[decide_eq_true_eq];omega
      rw[e1,e2];rfl
     ·have hcb:=hE.1 b g
      rw[List.filter_cons,List.filter_cons]
      by_cases hac:a<c
      ·rw[if_pos (by simp only[decide_eq_true_eq];omega),if_pos (by simp only[decide_eq_true_eq];omega),ih2 hE.2 g]
       rfl
      ·rw[if_neg (by simp only[decide_eq_true_eq];omega),if_neg (by simp only[decide_eq_true_eq];omega),ih2 hE.2 g]
   rw[e,List.map_append,List.sum_append,ih1]
   simp only[List.map_cons,List.map_nil,List.sum_cons,List.sum_nil]
   unfold priceI
   rw[show b-1=a+n by omega]
   omega
  ·have e:(E.filter fun e=>decide (a<e/\e<=b))=(E.filter fun e=>decide (a<e/\e<=a+n)):=by
    refine List.filter_congr fun x hx=>?_
    have:x≠b:=fun h=>hm (h ▸ hx)
    rw[decide_eq_decide]
    omega
   rw[e,ih1,mostI_step hl (b:=b) (by omega) fun x hx h=>hm (h ▸ hl2 x hx),show b-1=a+n by omega]
end Go.Dw
/- SH: the best of some intervals: one by one; any prices that cover all. -/
namespace Go.Dw
open Go Go.Dx Go.Proofs
def apart2 (a b:Iv):Prop:=a.e<=b.s\/b.e<=a.s
instance (a b:Iv):Decidable (apart2 a b):=inferInstanceAs (Decidable (_\/_))
def Disj (P:List Iv):Prop:=P.Pairwise apart2
theorem apart2.symm {a b:Iv}(h:apart2 a b):apart2 b a:=Or.symm h
def insI (x:Iv)(l:List Iv):List Iv:=l.takeWhile (fun y=>decide (y.e<=x.s))++x::l.dropWhile (fun y=>decide (y.e<=x.s))
theorem insI_perm (x:Iv)(l:List Iv):(insI x l).Perm (x::l):=by
 unfold insI
 have h:=List.takeWhile_append_dropWhile (p:=fun y:Iv=>decide (y.e<=x.s)) (l:=l)
 refine List.perm_middle.trans ?_
 rw[h]
theorem insI_row {x:Iv}(hx:x.s<x.e):∀{l:List Iv},RowI l->(∀y∈l,apart2 x y/\y.s<y.e)->RowI (insI x l)
 | [],_,_=>by unfold insI RowI;simp
 | a::l,hs,ha=>by
  unfold RowI at hs ⊢
  rw[List.pairwise_cons] at hs
  have h1:=ha a List.mem_cons_self
  by_cases c:a.e<=x.s
  ·have e:insI x (a::l)=a::insI x l:=by unfold insI;rw[List.takeWhile_cons_of_pos (by simpa using c),List.dropWhile_cons_of_pos (by simpa using c)];rfl
   rw[e,List.pairwise_cons]
   refine⟨fun b hb=>?_,insI_row hx hs.2 fun y hy=>ha y (List.mem_cons_of_mem _ hy)⟩
   rcases List.mem_cons.1 ((insI_perm x l).subset hb) with rfl|hb
   ·exact c
   ·exact hs.1 b hb
  ·have e:insI x (a::l)=x::a::l:=by unfold insI;rw[List.takeWhile_cons_of_neg (by simpa using c),List.dropWhile_cons_of_neg (by simpa using c)];rfl
   have hxa:x.e<=a.s:=by
    rcases h1.1 with g|g
    ·exact g
    ·exact absurd g c
   rw[e,List.pairwise_cons,List.pairwise_cons]
   refine⟨fun b hb=>?_,hs⟩
   rcases List.mem_cons.1 hb with rfl|hb
   ·exact hxa
   ·have:=hs.1 b hb
    omega
theorem disj_row {P:List Iv}(hP:Disj P)(hv:∀x∈P,x.s<x.e):∃Q,Q.Perm P/\RowI Q:=by
 induction P with
 | nil=>exact⟨[],.refl _,.nil⟩
 | cons x P ih =>
  unfold Disj at hP
  rw[List.pairwise_cons] at hP
  obtain⟨Q,hQ,hR⟩:=ih hP.2 fun y hy=>hv y (List.mem_cons_of_mem _ hy)
  refine⟨insI x Q,(insI_perm x Q).trans (hQ.cons x),insI_row (hv x List.mem_cons_self) hR fun y hy=>?_⟩
  have hy':=hQ.subset hy
  exact⟨hP.1 y hy',hv y (List.mem_cons_of_mem _ hy')⟩
theorem sum_perm {l l':List Int}(h:l.Perm l'):l.sum=l'.sum:=by
 induction h with
 | nil=>rfl
 | cons x _ ih=>rw[List.sum_cons,List.sum_cons,ih]
 | swap x y l=>simp only[List.sum_cons];omega
 | trans _ _ i1 i2=>exact i1.trans i2
theorem sumW_perm {P Q:List Iv}(h:P.Perm Q):sumW P=sumW Q:=sum_perm (h.map Iv.w)
theorem disj_le {l:List Iv}(hl:∀x∈l,x.Ok){P:List Iv}{b:Int}(hb:0<=b)(hP:∀x∈P,x∈l/\x.e<=b)(hD:Disj P):sumW P<=mostI l b:=by
 obtain⟨Q,hQ,hR⟩:=disj_row hD fun x hx=>(hl x (hP x hx).1).se
 rw[<-sumW_perm hQ]
 exact row_le hl Q hb (fun x hx=>hP x (hQ.subset hx)) hR
theorem disj_best {l:List Iv}(hl:∀x∈l,x.Ok){b:Int}(hb:0<=b):∃P,(∀x∈P,x∈l/\x.e<=b)/\Disj P/\sumW P=mostI l b:=by
 obtain⟨P,h1,h2,h3⟩:=row_best hl b.toNat (b:=b) hb (by omega)
 exact⟨P,h1,h2.imp fun h=>.inl h,h3⟩
def awayI (x:Iv)(l:List Iv):List Iv:=l.filter fun y=>decide (apart2 x y)
theorem sumW_cons (x:Iv)(P:List Iv):sumW (x::P)=x.w+sumW P:=by
 unfold sumW;rw[List.map_cons,List.sum_cons]
theorem best_cons {x:Iv}{l:List Iv}(hl:∀y∈x::l,y.Ok){b:Int}(hb:0<=b)(hxb:x.e<=b):mostI (x::l) b=max (mostI l b) (x.w+mostI (awayI x l) b):=by
 have hl1:∀y∈l,y.Ok:=fun y hy=>hl y (List.mem_cons_of_mem _ hy)
 have hl2:∀y∈awayI x l,y.Ok:=fun y hy=>hl1 y (List.mem_filter.1 hy).1
 refine Int.le_antisymm ?_ (Int.max_le.2 ⟨?_,?_⟩)
 ·obtain⟨P,h1,h2,h3⟩:=disj_best hl hb
  rw[<-h3]
  by_cases hx:x∈P
  ·obtain⟨P1,P2,rfl⟩:=List.append_of_mem hx
   have hp:(P1++x::P2).Perm (x::(P1++P2)):=List.perm_middle
   have h4:Disj (x::(P1++P2)):=hp.pairwise h2 fun h=>h.symm
   unfold Disj at h4
   rw[List.pairwise_cons] at h4
   rw[sumW_perm hp,sumW_cons]
   have h5:sumW (P1++P2)<=mostI (awayI x l) b:=disj_le hl2 hb (fun y hy=>by
    have h6:=h1 y (hp.symm.subset (List.mem_cons_of_mem _ hy))
    have h7:=h4.1 y hy
    refine⟨?_,h6.2⟩
    rcases List.mem_cons.1 h6.1 with e|g
    ·exfalso
     have:=(hl x List.mem_cons_self).se
     rw[e] at h7
     unfold apart2 at h7
     omega
    ·exact List.mem_filter.2 ⟨g,decide_eq_true h7⟩) h4.2
   omega
  ·have h5:sumW P<=mostI l b:=disj_le hl1 hb (fun y hy=>by
    have h6:=h1 y hy
    rcases List.mem_cons.1 h6.1 with e|g
    ·exact absurd (e ▸ hy) hx
    ·exact⟨g,h6.2⟩) h2
   omega
 ·obtain⟨P,h1,h2,h3⟩:=disj_best hl1 hb
  rw[<-h3]
  exact disj_le hl hb (fun y hy=>⟨List.mem_cons_of_mem _ (h1 y hy).1,(h1 y hy).2⟩) h2
 ·obtain⟨P,h1,h2,h3⟩:=disj_best hl2 hb
  rw[<-h3,<-sumW_cons]
  refine disj_le hl hb (fun y hy=>?_) ?_
  ·rcases List.mem_cons.1 hy with rfl|g
   ·exact⟨List.mem_cons_self,hxb⟩
   ·exact⟨List.mem_cons_of_mem _ (List.mem_filter.1 (h1 y g).1).1,(h1 y g).2⟩
  ·unfold Disj
   rw[List.pairwise_cons]
   exact⟨fun y hy=>of_decide_eq_true (List.mem_filter.1 (h1 y hy).1).2,h2⟩
def coverI (Q:List (Int×Int))(x:Iv):Int:=((Q.filter fun q=>decide (x.s<=q.1/\q.1<=x.e-1)).map Prod.snd).sum
def totalI (Q:List (Int×Int)):Int:=(Q.map Prod.snd).sum
theorem cover_total {P:List Iv}(hD:Disj P):∀{Q:List (Int×Int)},(∀q∈Q,0<=q.2)->(P.map (coverI Q)).sum<=totalI Q
 | [],_=>by
  have:∀P:List Iv,(P.map (coverI [])).sum=0:=fun P=>by
   induction P with
   | nil=>rfl
   | cons x P ih=>rw[List.map_cons,List.sum_cons,ih];rfl
  rw[this];exact Int.le_refl _
 | q::Q,hq=>by
  have ih:=cover_total hD (Q:=Q) fun r hr=>hq r (List.mem_cons_of_mem _ hr)
  have hq0:=hq q List.mem_cons_self
  have e:∀x,coverI (q::Q) x=(if x.s<=q.1/\q.1<=x.e-1 then q.2 else 0)+coverI Q x:=fun x=>by
   unfold coverI
   rw[List.filter_cons]
   by_cases c:x.s<=q.1/\q.1<=x.e-1
   ·rw[if_pos (decide_eq_true c),if_pos c,List.map_cons,List.sum_cons]
   ·rw[if_neg (by simpa using c),if_neg c,Int.zero_add]
  have h1:∀(P:List Iv),Disj P->(P.map (coverI (q::Q))).sum<=q.2+(P.map (coverI Q)).sum/\((∀x∈P,¬(x.s<=q.1/\q.1<=x.e-1))->(P.map (coverI (q::Q))).sum=(P.map (coverI Q)).sum):=fun P=>by
   induction P with
   | nil=>exact fun _=>⟨by simpa using hq0,fun _=>rfl⟩
   | cons x P ih =>
    intro hP
    unfold Disj at hP
    rw[List.pairwise_cons] at hP
    obtain⟨i1,i2⟩:=ih hP.2
    simp only[List.map_cons,List.sum_cons]
    rw[e x]
    constructor
    ·by_cases c:x.s<=q.1/\q.1<=x.e-1
     ·rw[if_pos c,i2 fun y hy hc=>?_]
      ·omega
      ·have:=hP.1 y hy
       unfold apart2 at this
       omega
     ·rw[if_neg c];omega
    ·intro hn
     rw[if_neg (hn x List.mem_cons_self),i2 fun y hy=>hn y (List.mem_cons_of_mem _ hy)]
     omega
  have h2:=(h1 P hD).1
  have h3:totalI (q::Q)=q.2+totalI Q:=by unfold totalI;rw[List.map_cons,List.sum_cons]
  omega
theorem cover_bound {l P:List Iv}{Q:List (Int×Int)}(hq:∀q∈Q,0<=q.2)(hc:∀x∈l,x.w<=coverI Q x)(hP:∀x∈P,x∈l)(hD:Disj P):sumW P<=totalI Q:=by
 refine Int.le_trans ?_ (cover_total hD hq)
 unfold sumW
 clear hD
 induction P with
 | nil=>exact Int.le_refl _
 | cons x P ih =>
  simp only[List.map_cons,List.sum_cons]
  have h1:=hc x (hP x List.mem_cons_self)
  have h2:=ih fun y hy=>hP y (List.mem_cons_of_mem _ hy)
  omega
end Go.Dw
/- SL: the best programme, chosen one by one: in the program and in the reference; with no program in sight. -/
namespace Go.Dw
open Go Go.Dx Go.Proofs
section
variable {α:Type}(iv:α->Iv)(late:Int)
def bestA (l:List α):Int:=mostI (l.map iv) late
def awayA (x:α)(l:List α):List α:=l.filter fun y=>decide (apart2 (iv x) (iv y))
theorem awayA_map (x:α)(l:List α):(awayA iv x l).map iv=awayI (iv x) (l.map iv):=by
 unfold awayA awayI
 rw[List.filter_map];rfl
theorem awayA_len (x:α)(l:List α):(awayA iv x l).length<=l.length:=List.length_filter_le _ _
def choP (W:Int):Nat->List α->Int->List α
 | 0,_,_=>[]
 | _,[],_=>[]
 | f+1,x::l,s=>if W<=s then [] else if s+(iv x).w+bestA iv late (awayA iv x l)=W then x::choP W f (awayA iv x l) (s+(iv x).w) else choP W f l s
def fitA (now:List α)(x:α):Bool:=now.all fun y=>decide (apart2 (iv y) (iv x))
def choR (W:Int):List α->List α->Int->List α
 | [],_,_=>[]
 | x::l,now,s=>if W<=s then [] else if fitA iv now x=false then choR W l now s
  else if s+(iv x).w+bestA iv late (l.filter (fitA iv (now++[x])))=W then x::choR W l (now++[x]) (s+(iv x).w) else choR W l now s
theorem choP_fuel {W:Int}:∀{f g:Nat}{l:List α}{s:Int},l.length<=f->l.length<=g->choP iv late W f l s=choP iv late W g l s
 | 0,0,_,_,_,_=>rfl
 | 0,g+1,l,s,h,_=>by
  have:l=[]:=List.length_eq_zero_iff.1 (by omega)
  subst this;rfl
 | f+1,0,l,s,_,h=>by
  have:l=[]:=List.length_eq_zero_iff.1 (by omega)
  subst this;rfl
 | f+1,g+1,[],s,_,_=>rfl
 | f+1,g+1,x::l,s,h1,h2=>by
  have h3:=awayA_len iv x l
  simp only[List.length_cons] at h1 h2
  rw[choP,choP,choP_fuel (f:=f) (g:=g) (l:=awayA iv x l) (by omega) (by omega),choP_fuel (f:=f) (g:=g) (l:=l) (by omega) (by omega)]
theorem choP_best {W:Int}:∀{f:Nat}{l:List α}{s:Int},l.length<=f->(∀y∈l,(iv y).Ok/\(iv y).e<=late)->0<=late->s+bestA iv late l=W →
  s+sumW ((choP iv late W f l s).map iv)=W/\Disj ((choP iv late W f l s).map iv)/\(choP iv late W f l s).Sublist l
 | 0,l,s,h,_,hl,hW=>by
  have:l=[]:=List.length_eq_zero_iff.1 (by omega)
  subst this
  refine⟨?_,.nil,List.Sublist.slnil⟩
  have:bestA iv late ([]:List α)=0:=by unfold bestA;rw[List.map_nil,mostI_eq (fun _ h=>absurd h List.not_mem_nil) hl];rfl
  rw[this] at hW
  exact hW
 | f+1,[],s,h,_,hl,hW=>by
  refine⟨?_,.nil,List.Sublist.slnil⟩
  have:bestA iv late ([]:List α)=0:=by unfold bestA;rw[List.map_nil,mostI_eq (fun _ h=>absurd h List.not_mem_nil) hl];rfl
  rw[this] at hW
  exact hW
 | f+1,x::l,s,h,hok,hl,hW=>by
  simp only[List.length_cons] at h
  have hlok:∀y∈(x::l).map iv,y.Ok:=fun y hy=>by
   obtain⟨z,hz,rfl⟩:=List.mem_map.1 hy
   exact (hok z hz).1
  have hb:=best_cons (x:=iv x) (l:=l.map iv) (b:=late) hlok hl (hok x List.mem_cons_self).2
  have hnn:0<=bestA iv late (x::l):=mostI_nonneg hlok hl
  rw[<-awayA_map] at hb
  have hb:bestA iv late (x::l)=max (bestA iv late l) ((iv x).w+bestA iv late (awayA iv x l)):=hb
  rw[choP]
  by_cases hw:W<=s
  ·rw[if_pos hw]
   exact⟨by show s+0=W;omega,.nil,List.nil_sublist _⟩
  ·rw[if_neg hw]
   by_cases hc:s+(iv x).w+bestA iv late (awayA iv x l)=W
   ·rw[if_pos hc]
    have hsub:(awayA iv x l).Sublist l:=List.filter_sublist
    obtain⟨i1,i2,i3⟩:=choP_best (W:=W) (f:=f) (l:=awayA iv x l) (s:=s+(iv x).w) (by have:=awayA_len iv x l;omega) (fun y hy=>hok y (List.mem_cons_of_mem _ (hsub.subset hy))) hl (by omega)
    refine⟨?_,?_,(i3.trans hsub).cons_cons x⟩
    ·rw[List.map_cons,sumW_cons];omega
    ·rw[List.map_cons]
     refine List.pairwise_cons.2 ⟨fun y hy=>?_,i2⟩
     obtain⟨z,hz,rfl⟩:=List.mem_map.1 hy
     have:=(List.mem_filter.1 (i3.subset hz)).2
     exact of_decide_eq_true this
   ·rw[if_neg hc]
    obtain⟨i1,i2,i3⟩:=choP_best (W:=W) (f:=f) (l:=l) (s:=s) (by omega) (fun y hy=>hok y (List.mem_cons_of_mem _ hy)) hl (by omega)
    exact⟨i1,i2,i3.cons x⟩
end
end Go.Dw
/- SM: chapter 11 with no program in sight: law of ScreenRights; the reference's most. -/
namespace Go.Dw
open Go Go.Dx Go.Proofs
def endI (l:List Iv)(x:Iv):Int:=x.w+mostI l x.s
end Go.Dw
/- SU: ends without repetition; prices; with no program in sight. -/
namespace Go.Dw
open Go Go.Dx Go.Proofs
def newAt (S:List Int)(i:Nat):Bool:=decide (i=0\/S.getD i 0≠S.getD (i-1) 0)
def cmpK (S:List Int)(j:Nat):List Int:=((List.range j).filter (newAt S)).map fun i=>S.getD i 0
theorem cmpK_succ (S:List Int)(j:Nat):cmpK S (j+1)=if newAt S j=true then cmpK S j++[S.getD j 0] else cmpK S j:=by
 unfold cmpK
 rw[List.range_succ,List.filter_append,List.map_append]
 cases hq:newAt S j with
 | true=>simp[hq]
 | false=>simp[hq]
theorem cmpK_all {S:List Int}{j:Nat}(hj:j<=S.length)(h:∀i,i<j->newAt S i=true):cmpK S j=S.take j:=by
 induction j with
 | zero=>rfl
 | succ j ih =>
  rw[cmpK_succ,if_pos (h j (by omega)),ih (by omega) fun i hi=>h i (by omega),List.take_add_one,List.getElem?_eq_getElem (by omega),List.getD_eq_getElem?_getD,List.getElem?_eq_getElem (by omega)]
  rfl
theorem cmpK_up {S:List Int}(hS:S.Pairwise (·<=·)):∀{j:Nat},j<=S.length->(cmpK S j).Pairwise (· < ·)/\∀e∈cmpK S j,∃i,∃hi:i<j,S.getD i 0=e
 | 0,_=>⟨.nil,fun _ h=>nomatch h⟩
 | j+1,hj=>by
  obtain⟨h1,h2⟩:=cmpK_up hS (j:=j) (by omega)
  rw[cmpK_succ]
  split
  ·rename_i hn
   refine⟨List.pairwise_append.2 ⟨h1,by simp,fun a ha b hb=>?_⟩,fun e he=>?_⟩
   ·rw[List.mem_singleton.1 hb]
    obtain⟨i,hi,rfl⟩:=h2 a ha
    rcases of_decide_eq_true hn with e0|hne
    ·omega
    have hp:=List.pairwise_iff_getElem.1 hS
    have g:∀x,x<S.length->S.getD x 0=S[x]!:=fun x hx=>by simp[List.getD_eq_getElem?_getD,hx]
    have e1:S.getD (j-1) 0<=S.getD j 0:=by
     rw[List.getD_eq_getElem?_getD,List.getD_eq_getElem?_getD,List.getElem?_eq_getElem (show j-1<S.length by omega),List.getElem?_eq_getElem (show j<S.length by omega)]
     exact hp (j-1) j (by omega) (by omega) (by omega)
    have e2:S.getD i 0<=S.getD (j-1) 0:=by
     rcases Nat.lt_or_ge i (j-1) with q|q
     ·rw[List.getD_eq_getElem?_getD,List.getD_eq_getElem?_getD,List.getElem?_eq_getElem (show j-1<S.length by omega),List.getElem?_eq_getElem (show i<S.length by omega)]
      exact hp i (j-1) (by omega) (by omega) q
     ·have:i=j-1:=by omega
      rw[this];exact Int.le_refl _
    omega
   ·rcases List.mem_append.1 he with q|q
    ·obtain⟨i,hi,e⟩:=h2 e q
     exact⟨i,by omega,e⟩
    ·exact⟨j,by omega,(List.mem_singleton.1 q).symm⟩
  ·exact⟨h1,fun e he=>by obtain⟨i,hi,q⟩:=h2 e he;exact⟨i,by omega,q⟩⟩
theorem cmpK_mem {S:List Int}:∀{j:Nat},∀i,i<j->S.getD i 0∈cmpK S j
 | 0,i,hi=>absurd hi (by omega)
 | j+1,i,hi=>by
  rw[cmpK_succ]
  rcases Nat.lt_or_ge i j with q|q
  ·have:=cmpK_mem (S:=S) (j:=j) i q
   split
   ·exact List.mem_append_left _ this
   ·exact this
  ·obtain rfl:i=j:=by omega
   split
   ·simp
   ·rename_i hn
    cases i with
    | zero=>exact absurd (decide_eq_true (Or.inl rfl)) hn
    | succ i =>
     have he:S.getD (i+1) 0=S.getD i 0:=by
      apply Classical.byContradiction
      intro hc
      exact hn (decide_eq_true (Or.inr hc))
     rw[he]
     exact cmpK_mem (S:=S) (j:=i+1) i (by omega)
def EndsOk (l:List Iv)(E:List Int):Prop:=E.Pairwise (· < ·)/\∀e,e∈E ↔ ∃x∈l,x.e=e
theorem ends_cmp {l:List Iv}{S:List Int}(hp:S.Perm (l.map Iv.e))(hS:S.Pairwise (·<=·)):EndsOk l (cmpK S S.length):=by
 obtain⟨h1,h2⟩:=cmpK_up hS (Nat.le_refl S.length)
 refine⟨h1,fun e=>⟨fun he=>?_,fun he=>?_⟩⟩
 ·obtain⟨i,hi,rfl⟩:=h2 e he
  have hm:S.getD i 0∈S:=by
   rw[List.getD_eq_getElem?_getD,List.getElem?_eq_getElem hi]
   exact List.getElem_mem hi
  obtain⟨x,hx,e⟩:=List.mem_map.1 (hp.subset hm)
  exact⟨x,hx,e⟩
 ·obtain⟨x,hx,rfl⟩:=he
  have hm:x.e∈S:=hp.symm.subset (List.mem_map_of_mem hx)
  obtain⟨i,hi,e⟩:=List.getElem_of_mem hm
  have:=cmpK_mem (S:=S) (j:=S.length) i hi
  rw[List.getD_eq_getElem?_getD,List.getElem?_eq_getElem hi] at this
  rw[<-e]
  exact this
theorem up_same:∀{E F:List Int},E.Pairwise (· < ·)->F.Pairwise (· < ·)->(∀e,e∈E ↔ e∈F)->E=F
 | [],[],_,_,_=>rfl
 | [],b::F,_,_,h=>absurd ((h b).2 List.mem_cons_self) List.not_mem_nil
 | a::E,[],_,_,h=>absurd ((h a).1 List.mem_cons_self) List.not_mem_nil
 | a::E,b::F,h1,h2,h=>by
  rw[List.pairwise_cons] at h1 h2
  have e:a=b:=by
   have q1:=(h a).1 List.mem_cons_self
   have q2:=(h b).2 List.mem_cons_self
   rcases List.mem_cons.1 q1 with g|g
   ·exact g
   ·rcases List.mem_cons.1 q2 with g2|g2
    ·exact g2.symm
    ·have:=h1.1 b g2
     have:=h2.1 a g
     omega
  subst e
  congr 1
  refine up_same h1.2 h2.2 fun e=>⟨fun he=>?_,fun he=>?_⟩
  ·have:=h1.1 e he
   rcases List.mem_cons.1 ((h e).1 (List.mem_cons_of_mem _ he)) with g|g
   ·omega
   ·exact g
  ·have:=h2.1 e he
   rcases List.mem_cons.1 ((h e).2 (List.mem_cons_of_mem _ he)) with g|g
   ·omega
   ·exact g
theorem EndsOk.same {l:List Iv}{E F:List Int}(h1:EndsOk l E)(h2:EndsOk l F):E=F:=up_same h1.1 h2.1 fun e=>(h1.2 e).trans (h2.2 e).symm
def priceL (l:List Iv)(E:List Int):List (Int×Int):=E.filterMap fun e=>if 0<priceI l e then some (e-1,priceI l e) else none
theorem priceL_snoc {l:List Iv}{E:List Int}{e:Int}:priceL l (E++[e])=priceL l E++if 0<priceI l e then [(e-1,priceI l e)] else []:=by
 unfold priceL
 rw[List.filterMap_append]
 by_cases h:0<priceI l e
 ·simp[h]
 ·simp[h]
theorem priceL_len {l:List Iv}{E:List Int}:(priceL l E).length<=E.length:=List.length_filterMap_le _ _
theorem priceL_take {l:List Iv}{E:List Int}{k:Nat}(hk:k<E.length):priceL l (E.take (k+1))=priceL l (E.take k)++if 0<priceI l E[k] then [(E[k]-1,priceI l E[k])] else []:=by
 have:E.take (k+1)=E.take k++[E[k]]:=by rw[List.take_add_one,List.getElem?_eq_getElem hk];rfl
 rw[this,priceL_snoc]
theorem nodup_len {α:Type} [DecidableEq α]:∀{l l':List α},l.Nodup->l ⊆ l'->l.length<=l'.length
 | [],_,_,_=>Nat.zero_le _
 | a::l,l',hn,hs=>by
  rw[List.nodup_cons] at hn
  have ha:a∈l':=hs List.mem_cons_self
  have ih:=nodup_len (l':=l'.erase a) hn.2 fun x hx=>(List.mem_erase_of_ne (fun e=>hn.1 (by rw[<-e];exact hx))).2 (hs (List.mem_cons_of_mem _ hx))
  rw[List.length_erase_of_mem ha] at ih
  have:0<l'.length:=List.length_pos_of_mem ha
  rw[List.length_cons]
  omega
theorem ends_len {l:List Iv}{E:List Int}(h:EndsOk l E):E.length<=l.length:=by
 have hn:E.Nodup:=h.1.imp fun h=>Int.ne_of_lt h
 have hs:E ⊆ l.map Iv.e:=fun e he=>by
  obtain⟨x,hx,rfl⟩:=(h.2 e).1 he
  exact List.mem_map_of_mem hx
 have:=nodup_len hn hs
 rw[List.length_map] at this
 exact this
theorem choP_map {α β:Type}(f:α->β)(iv:β->Iv)(late:Int){W:Int}:∀{n:Nat}{l:List α}{s:Int},choP iv late W n (l.map f) s=(choP (fun x=>iv (f x)) late W n l s).map f
 | 0,_,_=>by rw[choP,choP];rfl
 | n+1,[],_=>rfl
 | n+1,x::l,s=>by
  have h1:awayA iv (f x) (l.map f)=(awayA (fun x=>iv (f x)) x l).map f:=by
   unfold awayA
   rw[List.filter_map];rfl
  have h2:∀l:List α,bestA iv late (l.map f)=bestA (fun x=>iv (f x)) late l:=fun l=>by unfold bestA;rw[List.map_map];rfl
  rw[List.map_cons,choP,choP,h1,h2,choP_map f iv late,choP_map f iv late]
  split
  ·rfl
  ·split <;> rfl
end Go.Dw
/- SV: the reference's way to the best programme; with no program in sight. -/
namespace Go.Dw
open Go Go.Dx Go.Proofs
def fnL {β:Type}(n:Nat)(f:Nat->β):List β:=(List.range n).map f
theorem fnL_at {β:Type}{n k:Nat}{f:Nat->β}(hk:k<n):(fnL n f)[k]?=some (f k):=by simp[fnL,hk]
def updB {β:Type}(f:Nat->β)(i:Nat)(v:β):Nat->β:=fun k=>if k=i then v else f k
theorem updB_at {β:Type}{f:Nat->β}{i:Nat}{v:β}:updB f i v i=v:=by unfold updB;rw[if_pos rfl]
theorem updB_ne {β:Type}{f:Nat->β}{i k:Nat}{v:β}(h:k≠i):updB f i v k=f k:=by unfold updB;rw[if_neg h]
def doneL' (dn:Nat->Bool)(N:Nat):List Nat:=(List.range N).filter dn
theorem doneL'_succ {dn:Nat->Bool}{N:Nat}:doneL' dn (N+1)=if dn N=true then doneL' dn N++[N] else doneL' dn N:=by
 unfold doneL'
 rw[List.range_succ,List.filter_append]
 cases h:dn N <;> simp[h]
theorem done_upd {dn:Nat->Bool}{i:Nat}(hd:dn i=false):∀{N:Nat},i<N->(doneL' (updB dn i true) N).length=(doneL' dn N).length+1
 | 0,h=>by omega
 | N+1,h=>by
  rw[doneL'_succ,doneL'_succ]
  by_cases e:i=N
  ·subst e
   have hc:doneL' (updB dn i true) i=doneL' dn i:=by
    unfold doneL'
    refine List.filter_congr fun k hk=>?_
    exact updB_ne (by have:=List.mem_range.1 hk;omega)
   rw[updB_at,if_pos rfl,hd,if_neg (by simp),hc,List.length_append]
   rfl
  ·have ih:=done_upd hd (N:=N) (by omega)
   rw[updB_ne (fun q=>e q.symm)]
   split
   ·rw[List.length_append,List.length_append,ih];simp only[List.length_singleton]
   ·exact ih
structure MostI (I:List Iv)(iv:Nat->Iv)(N n:Nat)(dn:Nat->Bool)(en:Nat->Int):Prop where
 cnt:(doneL' dn N).length=n
 ord:∀a b,a<N->b<N->dn a=true->dn b=false->(iv a).e<=(iv b).e
 val:∀a,a<N->dn a=true->en a=endI I (iv a)
theorem MostI.zero (I:List Iv)(iv:Nat->Iv)(N:Nat)(en:Nat->Int):MostI I iv N 0 (fun _=>false) en :=
 ⟨by unfold doneL';simp,fun _ _ _ _ h=>(by cases h),fun _ _ h=>(by cases h)⟩
def accM (I:List Iv)(iv:Nat->Iv)(dn:Nat->Bool)(x:Iv)(k:Nat):Int:=maxBy (fun y:Iv=>y.e<=x.s) (fun y=>endI I y+x.w) x.w ((doneL' dn k).map iv)
theorem MostI.step {I:List Iv}{iv:Nat->Iv}{N n:Nat}{dn:Nat->Bool}{en:Nat->Int}(hM:MostI I iv N n dn en){i:Nat}(hi:i<N)(hd:dn i=false)(hmin:∀a,a<N->dn a=false->(iv i).e<=(iv a).e):MostI I iv N (n+1) (updB dn i true) (updB en i (endI I (iv i))):=by
 refine⟨by rw[done_upd hd hi,hM.cnt],fun a b ha hb h1 h2=>?_,fun a ha h1=>?_⟩
 ·have hbi:b≠i:=fun e=>by rw[e,updB_at] at h2;cases h2
  rw[updB_ne hbi] at h2
  by_cases e:a=i
  ·rw[e];exact hmin b hb h2
  ·rw[updB_ne e] at h1
   exact hM.ord a b ha hb h1 h2
 ·by_cases e:a=i
  ·rw[e,updB_at]
  ·rw[updB_ne e] at h1 ⊢
   exact hM.val a ha h1
def nextE (iv:Nat->Iv)(last:Int)(k:Nat):Int:=(List.range k).foldl (fun nx i=>if last<(iv i).e/\(nx<0\/(iv i).e<nx) then (iv i).e else nx) (-1)
end Go.Dw
