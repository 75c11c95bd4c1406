/- SA: chapter 11 with no program in sight: a task, what is wrong with it. -/
import Derived.Test.YtfgeelpahicelaaGreatDoorVG4
set_option linter.unusedVariables false
set_option linter.unusedSimpArgs false
namespace Go.Dw
open Go Go.Dx Go.Proofs
structure Sp where
 lo:Int
 hi:Int
structure ScV where
 name:List UInt8
 land:Int
 proj:Int
 speeds:Sp
 change:Int
 spool:Int
 turn:Int
 digital:Bool
structure ScR where
 work:List UInt8
 version:List UInt8
 land:Int
 days:Sp
structure ScP where
 name:List UInt8
 work:List UInt8
 version:List UInt8
 reels:List Int
 speeds:Sp
 land:Int
structure ScPk where
 name:List UInt8
 work:List UInt8
 version:List UInt8
 frames:Int
 speed:Int
structure ScK where
 pack:Int
 venue:Int
 window:Sp
structure ScL where
 print:Int
 venue:Int
 days:Sp
structure ScT where
 first:Int
 lands:List (List UInt8)
 travel:List (List Int)
 venues:List ScV
 rights:List ScR
 prints:List ScP
 packs:List ScPk
 keys:List ScK
 loans:List ScL
def nameErr (s:List UInt8)(before:List (List UInt8)):Int:=if nameR s=false then 6 else if s∈before then 5 else 0
def oddS (s:Sp)(lo hi:Int):Int:=if (s.lo<lo\/hi<s.lo)\/(s.hi<lo\/hi<s.hi) then 7 else if s.hi<s.lo then 2 else 0
def travelErr (t:ScT):Int :=
 if t.travel.length≠t.lands.length then 2 else if (t.travel.any fun l=>decide (l.length≠t.lands.length))=true then 2
 else if (t.travel.any fun l=>l.any fun n=>decide (n < -1\/60<n))=true then 7 else 0
def abroad (t:ScT)(n:Int):Prop:=n<0\/(t.lands.length:Int)-1<n
instance (t:ScT)(n:Int):Decidable (abroad t n):=inferInstanceAs (Decidable (n<0\/_<n))
def venueErr (t:ScT)(v:ScV):Int :=
 if abroad t v.land then 4 else if (v.proj<0\/2<v.proj)\/(v.change<0\/60<v.change)\/(v.turn<0\/60<v.turn)\/(v.spool<1\/200000<v.spool) then 7 else oddS v.speeds 1 60
def rightErr (t:ScT)(r:ScR):Int :=
 if nameR r.work=false\/(r.version≠[]/\nameR r.version=false) then 6 else if abroad t r.land then 4 else oddS r.days 0 80000
def printErr (t:ScT)(p:ScP):Int :=
 if nameR p.work=false\/nameR p.version=false then 6 else if p.reels.length<1\/12<p.reels.length then 3
 else if (p.reels.any fun n=>decide (n<1\/200000<n))=true then 7 else if oddS p.speeds 1 60≠0 then oddS p.speeds 1 60 else if abroad t p.land then 4 else 0
def packErr (p:ScPk):Int :=
 if nameR p.work=false\/nameR p.version=false then 6 else if (p.frames<1\/2400000<p.frames)\/(p.speed<1\/60<p.speed) then 7 else 0
def keyErr (t:ScT)(k:ScK):Int :=
 if (k.pack<0\/(t.packs.length:Int)-1<k.pack)\/(k.venue<0\/(t.venues.length:Int)-1<k.venue) then 4 else oddS k.window 0 57600
def loanErr (t:ScT)(l:ScL):Int :=
 if (l.print<0\/(t.prints.length:Int)-1<l.print)\/(l.venue<0\/(t.venues.length:Int)-1<l.venue) then 4 else oddS l.days 0 80000
def goNm {α:Type}(nm:α->List UInt8)(wrong:α->Int):Nat->List (List UInt8)->List α->Option (Nat×Int)
 | _,_,[]=>none
 | i,b,x::xs=>if nameErr (nm x) b≠0 then some (i,nameErr (nm x) b) else if wrong x≠0 then some (i,wrong x) else goNm nm wrong (i+1) (b++[nm x]) xs
def goEa {α:Type}(wrong:α->Int):Nat->List α->Option (Nat×Int)
 | _,[]=>none
 | i,x::xs=>if wrong x≠0 then some (i,wrong x) else goEa wrong (i+1) xs
def orE (part:Int):Option (Nat×Int)->Int×Int×Int->Int×Int×Int
 | some (i,e),_=>(part,(i:Nat),e)
 | none,x=>x
def checkSc (t:ScT):Int×Int×Int :=
 if t.first<0\/80000<t.first then (1,0,7)
 else if (t.lands.length<1\/8<t.lands.length)\/(t.venues.length<1\/8<t.venues.length)\/30<t.rights.length\/12<t.prints.length\/12<t.packs.length\/30<t.keys.length\/30<t.loans.length then (1,0,3)
 else orE 2 (goNm id (fun _=>0) 0 [] t.lands) (if travelErr t≠0 then (2,0,travelErr t)
 else orE 3 (goNm ScV.name (venueErr t) 0 [] t.venues) (orE 4 (goEa (rightErr t) 0 t.rights) (orE 5 (goNm ScP.name (printErr t) 0 [] t.prints) (orE 6 (goNm ScPk.name packErr 0 [] t.packs)
  (orE 7 (goEa (keyErr t) 0 t.keys) (orE 8 (goEa (loanErr t) 0 t.loans) (0,0,0)))))))
def errSc (t:ScT):Int:=(checkSc t).2.2
def spVs (s:Sp):List Value:=[i64 s.lo,i64 s.hi]
def ScVR (_:Heap)(row:List Value)(v:ScV):Prop:=row=[str v.name,i64 v.land,i64 v.proj,i64 v.speeds.lo,i64 v.speeds.hi,i64 v.change,i64 v.spool,i64 v.turn,.bool v.digital]
def ScRR (_:Heap)(row:List Value)(r:ScR):Prop:=row=[str r.work,str r.version,i64 r.land,i64 r.days.lo,i64 r.days.hi]
def ScPR (h:Heap)(row:List Value)(p:ScP):Prop:=∃a c,row=[str p.name,str p.work,str p.version,.slice a p.reels.length c,i64 p.speeds.lo,i64 p.speeds.hi,i64 p.land]/\IntsAt h a p.reels
def ScPkR (_:Heap)(row:List Value)(p:ScPk):Prop:=row=[str p.name,str p.work,str p.version,i64 p.frames,i64 p.speed]
def ScKR (_:Heap)(row:List Value)(k:ScK):Prop:=row=[i64 k.pack,i64 k.venue,i64 k.window.lo,i64 k.window.hi]
def ScLR (_:Heap)(row:List Value)(l:ScL):Prop:=row=[i64 l.print,i64 l.venue,i64 l.days.lo,i64 l.days.hi]
def ScTvR (h:Heap)(row:List Value)(l:List Int):Prop:=∃a c,row=[.slice a l.length c]/\IntsAt h a l
structure ParL {α:Type}(enc:α->Value)(h:Heap)(a:Option Addr)(l:List α)(cap:Nat):Prop where
 at':ListAt enc h a l
 le:l.length<=cap
 plain:l≠[]->∃b o,a=some ⟨b,o,none⟩
theorem ParL.ext {α:Type}{enc:α->Value}{h h':Heap}{a:Option Addr}{l:List α}{cap:Nat}(p:ParL enc h a l cap)(he:Ext h h'):ParL enc h' a l cap:=⟨p.at'.ext he,p.le,p.plain⟩
theorem ParL.take {α:Type}{enc:α->Value}{h:Heap}{a:Option Addr}{l:List α}{cap:Nat}(p:ParL enc h a l cap)(k:Nat):ListAt enc h a (l.take k):=by
 intro i hi
 simp only[List.length_take] at hi
 obtain⟨b,o,oa,e,hc⟩:=p.at' i (by omega)
 exact⟨b,o,oa,e,by simpa only[List.getElem_take] using hc⟩
def ScTAt (h:Heap)(row:List Value)(t:ScT):Prop:=∃al cl at' ct a1 c1 a2 c2 a3 c3 a4 c4 a5 c5 a6 c6,row=[i64 t.first,.slice al t.lands.length cl,.slice at' t.travel.length ct,.slice a1 t.venues.length c1,.slice a2 t.rights.length c2,.slice a3 t.prints.length c3,.slice a4 t.packs.length c4,.slice a5 t.keys.length c5,.slice a6 t.loans.length c6] ∧
 ParL str h al t.lands cl/\RowsAt 1 ScTvR h at' t.travel/\RowsAt 9 ScVR h a1 t.venues/\RowsAt 5 ScRR h a2 t.rights/\RowsAt 7 ScPR h a3 t.prints/\RowsAt 5 ScPkR h a4 t.packs/\RowsAt 4 ScKR h a5 t.keys/\RowsAt 4 ScLR h a6 t.loans
theorem ScPR.ext {h h':Heap}{row:List Value}{p:ScP}(a:ScPR h row p)(he:Ext h h'):ScPR h' row p:=by
 obtain⟨x,c,e,h1⟩:=a
 exact⟨x,c,e,h1.ext he⟩
theorem ScTvR.ext {h h':Heap}{row:List Value}{l:List Int}(a:ScTvR h row l)(he:Ext h h'):ScTvR h' row l:=by
 obtain⟨x,c,e,h1⟩:=a
 exact⟨x,c,e,h1.ext he⟩
theorem ScTAt.ext {h h':Heap}{row:List Value}{t:ScT}(a:ScTAt h row t)(he:Ext h h'):ScTAt h' row t:=by
 obtain⟨al,cl,at',ct,a1,c1,a2,c2,a3,c3,a4,c4,a5,c5,a6,c6,e,h1,h2,h3,h4,h5,h6,h7,h8⟩:=a
 exact⟨al,cl,at',ct,a1,c1,a2,c2,a3,c3,a4,c4,a5,c5,a6,c6,e,h1.ext he,RowsAt.ext (R:=ScTvR) (fun x y=>ScTvR.ext x y) h2 he,RowsAt.ext (R:=ScVR) (fun x _=>x) h3 he,RowsAt.ext (R:=ScRR) (fun x _=>x) h4 he,RowsAt.ext (R:=ScPR) (fun x y=>ScPR.ext x y) h5 he,RowsAt.ext (R:=ScPkR) (fun x _=>x) h6 he,RowsAt.ext (R:=ScKR) (fun x _=>x) h7 he,RowsAt.ext (R:=ScLR) (fun x _=>x) h8 he⟩
structure ScV.Fit (v:ScV):Prop where
 name:Len v.name
 land:I64 v.land
 proj:I64 v.proj
 speeds:I64 v.speeds.lo/\I64 v.speeds.hi
 change:I64 v.change
 spool:I64 v.spool
 turn:I64 v.turn
structure ScR.Fit (r:ScR):Prop where
 work:Len r.work
 version:Len r.version
 land:I64 r.land
 days:I64 r.days.lo/\I64 r.days.hi
structure ScP.Fit (p:ScP):Prop where
 name:Len p.name
 work:Len p.work
 version:Len p.version
 reels:Len p.reels
 reelsI:∀n∈p.reels,I64 n
 speeds:I64 p.speeds.lo/\I64 p.speeds.hi
 land:I64 p.land
structure ScPk.Fit (p:ScPk):Prop where
 name:Len p.name
 work:Len p.work
 version:Len p.version
 frames:I64 p.frames
 speed:I64 p.speed
structure ScK.Fit (k:ScK):Prop where
 pack:I64 k.pack
 venue:I64 k.venue
 window:I64 k.window.lo/\I64 k.window.hi
structure ScL.Fit (l:ScL):Prop where
 print:I64 l.print
 venue:I64 l.venue
 days:I64 l.days.lo/\I64 l.days.hi
structure ScT.Fit (t:ScT):Prop where
 first:I64 t.first
 lands:Len t.lands
 landsL:∀s∈t.lands,Len s
 travel:Len t.travel
 travelL:∀l∈t.travel,Len l/\∀n∈l,I64 n
 venues:Len t.venues
 venuesF:∀v∈t.venues,v.Fit
 rights:Len t.rights
 rightsF:∀r∈t.rights,r.Fit
 prints:Len t.prints
 printsF:∀p∈t.prints,p.Fit
 packs:Len t.packs
 packsF:∀p∈t.packs,p.Fit
 keys:Len t.keys
 keysF:∀k∈t.keys,k.Fit
 loans:Len t.loans
 loansF:∀l∈t.loans,l.Fit
end Go.Dw
/- SB: chapter 11 with no program in sight: loans: in whatever order those of one day are looked at. -/
namespace Go.Dw
open Go Go.Dx Go.Proofs
def noV:ScV:=⟨[],0,0,⟨0,0⟩,0,0,0,false⟩
def venLand (t:ScT)(v:Int):Int:=(t.venues.getD v.toNat noV).land
def trv (t:ScT)(a b:Int):Int:=(t.travel.getD a.toNat []).getD b.toNat 0
def stopG (t:ScT)(at':Int)(fr:Option Int)(y:ScL):Bool :=
 decide (trv t at' (venLand t y.venue)<0) || (match fr with|none=>false|some f=>decide (y.days.lo-f<=trv t at' (venLand t y.venue)))
def goG (t:ScT):Int->Option Int->List ScL->Option Int
 | at',_,[]=>some at'
 | at',fr,y::l=>if stopG t at' fr y=true then none else goG t (venLand t y.venue) (some y.days.hi) l
def canG (t:ScT)(home:Int)(l:List ScL):Bool:=match goG t home none l with|none=>false|some at'=>decide (0<=trv t at' home)
def loLe (a b:ScL):Prop:=a.days.lo<=b.days.lo
def insG (g:ScL)(l:List ScL):List ScL:=l.takeWhile (fun y=>decide (y.days.lo<g.days.lo))++g::l.dropWhile (fun y=>decide (y.days.lo<g.days.lo))
def ofG (granted:List ScL)(x:ScL):List ScL:=granted.foldl (fun l g=>if g.print=x.print then insG g l else l) [x]
def noP:ScP:=⟨[],[],[],[],⟨0,0⟩,0⟩
def homeG (t:ScT)(p:Int):Int:=(t.prints.getD p.toNat noP).land
def grantS (t:ScT)(granted:List ScL)(x:ScL):Bool:=canG t (homeG t x.print) (ofG granted x)
def loansS (t:ScT):List ScL×List Int:=t.loans.foldl (fun s x=>if grantS t s.1 x=true then (s.1++[x],s.2++[0]) else (s.1,s.2++[210])) ([],[])
end Go.Dw
/- SC: chapter 11 with no program in sight: shows: how long, why not, which are kept. -/
namespace Go.Dw
open Go Go.Dx Go.Proofs
structure ScS where
 venue:Int
 print:Int
 pack:Int
 minute:Int
 speed:Int
 worth:Int
def ScSR (_:Heap)(row:List Value)(s:ScS):Prop:=row=[i64 s.venue,i64 s.print,i64 s.pack,i64 s.minute,i64 s.speed,i64 s.worth]
structure ScS.Fit (s:ScS):Prop where
 venue:I64 s.venue
 print:I64 s.print
 pack:I64 s.pack
 minute:I64 s.minute
 speed:I64 s.speed
 worth:I64 s.worth
def noPk:ScPk:=⟨[],[],[],0,0⟩
def venAt (t:ScT)(s:ScS):ScV:=t.venues.getD s.venue.toNat noV
def prAt (t:ScT)(s:ScS):ScP:=t.prints.getD s.print.toNat noP
def pkAt (t:ScT)(s:ScS):ScPk:=t.packs.getD s.pack.toNat noPk
def shownErr (t:ScT)(s:ScS):Int :=
 if s.venue<0\/(t.venues.length:Int)-1<s.venue then 4 else if (s.print = -1 ↔ s.pack = -1) then 2
 else if (s.print ≠ -1/\(s.print<0\/(t.prints.length:Int)-1<s.print))\/(s.pack ≠ -1/\(s.pack<0\/(t.packs.length:Int)-1<s.pack)) then 4
 else if (s.minute<0\/57600<s.minute)\/(s.speed<1\/60<s.speed)\/(s.worth<0\/1000000<s.worth) then 7 else 0
def upS (a b:Int):Int:=(a+b-1) / b
def secsS (l:List Int)(speed:Int):Int:=(l.map fun n=>upS n speed).sum
def longS (t:ScT)(s:ScS):Int :=
 if 0<=s.pack then upS (upS (pkAt t s).frames s.speed) 60
 else if (venAt t s).proj<2 then upS (secsS (prAt t s).reels s.speed) 60+(venAt t s).change*(((prAt t s).reels.length:Int)-1) else upS (secsS (prAt t s).reels s.speed) 60
def inSp (s all:Sp):Prop:=all.lo<=s.lo/\s.hi<=all.hi
instance (s all:Sp):Decidable (inSp s all):=inferInstanceAs (Decidable (_/\_))
def endS (t:ScT)(s:ScS):Int:=s.minute+longS t s
def daysS (t:ScT)(s:ScS):Sp:=⟨t.first+s.minute / 1440,t.first+(endS t s-1) / 1440⟩
def workS (t:ScT)(s:ScS):List UInt8:=if 0<=s.print then (prAt t s).work else (pkAt t s).work
def versS (t:ScT)(s:ScS):List UInt8:=if 0<=s.print then (prAt t s).version else (pkAt t s).version
def rightB (t:ScT)(s:ScS):Bool:=t.rights.any fun r=>decide (r.work=workS t s/\(r.version=[]\/r.version=versS t s)/\r.land=(venAt t s).land/\inSp (daysS t s) r.days)
def hereB (t:ScT)(s:ScS):Bool:=(loansS t).1.any fun l=>decide (l.print=s.print/\l.venue=s.venue/\inSp (daysS t s) l.days)
def filmS (t:ScT)(s:ScS):Int :=
 if hereB t s=false then 212 else if (venAt t s).proj=0\/¬((venAt t s).speeds.lo<=s.speed/\s.speed<=(venAt t s).speeds.hi)\/¬((prAt t s).speeds.lo<=s.speed/\s.speed<=(prAt t s).speeds.hi) then 215
 else if ((prAt t s).reels.any fun n=>decide ((venAt t s).spool<n))=true then 216 else 0
def keyB (t:ScT)(s:ScS):Bool:=t.keys.any fun k=>decide (k.pack=s.pack/\k.venue=s.venue/\inSp ⟨s.minute,endS t s⟩ k.window)
def digiS (t:ScT)(s:ScS):Int :=
 if (venAt t s).digital=false then 213 else if keyB t s=false then 214 else if s.speed≠(pkAt t s).speed then 215 else 0
def whyS (t:ScT)(s:ScS):Int:=if rightB t s=false then 211 else if 0<=s.print then filmS t s else digiS t s
def overS (t:ScT)(s:ScS):Int:=endS t s+(venAt t s).turn
def distB (t:ScT)(a b:ScS):Bool:=decide (a.venue=b.venue/\a.minute<overS t b/\b.minute<overS t a)
def busyS (t:ScT)(kept:List ScS)(s:ScS):Int:=if whyS t s≠0 then whyS t s else if (kept.any fun k=>distB t k s)=true then 217 else 0
def playS (t:ScT)(l:List ScS):List ScS×List Int:=l.foldl (fun p s=>(if busyS t p.1 s=0 then p.1++[s] else p.1,p.2++[busyS t p.1 s])) ([],[])
def listedS (t:ScT)(l:List ScS):Int:=if errSc t≠0 then errSc t else if 40<l.length then 3 else match l.find? fun s=>decide (shownErr t s≠0) with|some s=>shownErr t s|none=>0
end Go.Dw
/- SI: cuts with no program in sight: the frames that are left keep their order. -/
namespace Go.Dw
open Go Go.Dx Go.Proofs
structure Cut where
 a:Int
 b:Int
def CutR (_:Heap)(row:List Value)(c:Cut):Prop:=row=[i64 c.a,i64 c.b]
def cutGo:Int->List Cut->Int×Int
 | n,[]=>(n,0)
 | n,c::cs=>if (c.a<0\/n-1<c.a)\/(c.b<0\/n-1<c.b) then (0,7) else if c.b<c.a then (0,2) else cutGo (n-(c.b-c.a+1)) cs
def cutS (n:Int)(l:List Cut):Int×Int:=if n<1\/200000<n then (0,7) else if 30<l.length then (0,3) else cutGo n l
def afterC:List Cut->Int->Option Int
 | [],i=>some i
 | c::cs,i=>if c.a<=i/\i<=c.b then none else afterC cs (if c.b<i then i-(c.b-c.a+1) else i)
def CutsOk:Int->List Cut->Prop
 | _,[]=>True
 | n,c::cs=>0<=c.a/\c.a<=c.b/\c.b<n/\CutsOk (n-(c.b-c.a+1)) cs
theorem cutGo_ok:∀{l:List Cut}{n:Int},0<=n->(cutGo n l).2=0->CutsOk n l/\0<=(cutGo n l).1/\(cutGo n l).1<=n
 | [],n,h0,_=>⟨trivial,h0,Int.le_refl _⟩
 | c::cs,n,h0,h=>by
  rw[cutGo] at h ⊢
  split at h
  ·cases h
  ·rename_i h1
   rw[if_neg h1]
   split at h
   ·cases h
   ·rename_i h2
    rw[if_neg h2]
    obtain⟨i1,i2,i3⟩:=cutGo_ok (n:=n-(c.b-c.a+1)) (by omega) h
    exact⟨⟨by omega,by omega,by omega,i1⟩,i2,by omega⟩
def cntC (cs:List Cut)(i:Nat):Nat:=((List.range i).filter fun j:Nat=>(afterC cs (j:Int)).isSome).length
theorem cntC_succ (cs:List Cut)(i:Nat):cntC cs (i+1)=cntC cs i+if (afterC cs (i:Int)).isSome=true then 1 else 0:=by
 unfold cntC
 rw[List.range_succ,List.filter_append,List.length_append]
 congr 1
 rw[List.filter_cons]
 split <;> rfl
theorem cntC_cons {c:Cut}{cs:List Cut}{a b:Nat}(ha:c.a=a)(hb:c.b=b)(hab:a<=b):∀i,cntC (c::cs) i=if i<=a then cntC cs i else if i<=b+1 then cntC cs a else cntC cs (i-(b-a+1))
 | 0=>by rw[if_pos (Nat.zero_le _)];rfl
 | i+1=>by
  rw[cntC_succ,cntC_cons ha hb hab i]
  have e:afterC (c::cs) (i:Int)=if a<=i/\i<=b then none else afterC cs (if b<i then ((i-(b-a+1):Nat):Int) else (i:Int)):=by
   rw[afterC,ha,hb]
   by_cases h1:a<=i/\i<=b
   ·rw[if_pos h1,if_pos (by omega)]
   ·rw[if_neg h1,if_neg (by omega)]
    by_cases h2:b<i
    ·rw[if_pos h2,if_pos (by omega)]
     congr 1;omega
    ·rw[if_neg h2,if_neg (by omega)]
  rw[e]
  by_cases h1:i<a
  ·rw[if_neg (show ¬(a<=i/\i<=b) by omega),if_neg (show ¬b<i by omega),if_pos (show i<=a by omega),if_pos (show i+1<=a by omega),cntC_succ]
  ·by_cases h2:i<=b
   ·rw[if_pos (show a<=i/\i<=b from⟨by omega,h2⟩),if_neg (show ¬i+1<=a by omega),if_pos (show i+1<=b+1 by omega)]
    simp only[Option.isSome_none,Bool.false_eq_true,if_false,Nat.add_zero]
    by_cases h3:i<=a
    ·rw[if_pos h3,show i=a by omega]
    ·rw[if_neg h3,if_pos (by omega)]
   ·rw[if_neg (show ¬(a<=i/\i<=b) by omega),if_pos (show b<i by omega),if_neg (show ¬i<=a by omega),if_neg (show ¬i+1<=a by omega),if_neg (show ¬i+1<=b+1 by omega),show i+1-(b-a+1)=i-(b-a+1)+1 by omega,cntC_succ]
    congr 1
    by_cases h3:i=b+1
    ·rw[if_pos (by omega),show i-(b-a+1)=a by omega]
    ·rw[if_neg (by omega)]
theorem after_cnt:∀{cs:List Cut},(∀c∈cs,0<=c.a/\c.a<=c.b)->∀{i:Nat}{n:Int},afterC cs (i:Int)=some n->n=(cntC cs i:Nat)
 | [],_,i,n,h=>by
  cases h
  unfold cntC
  have:(List.range i).filter (fun j:Nat=>(afterC [] (j:Int)).isSome)=List.range i:=List.filter_eq_self.2 fun _ _=>rfl
  rw[this,List.length_range]
 | c::cs,hc,i,n,h=>by
  obtain⟨h1,h2⟩:=hc c List.mem_cons_self
  have e:=cntC_cons (c:=c) (cs:=cs) (a:=c.a.toNat) (b:=c.b.toNat) (by omega) (by omega) (by omega) i
  rw[afterC] at h
  split at h
  ·cases h
  ·rename_i h3
   have ih:=fun i n=>after_cnt (cs:=cs) (fun x hx=>hc x (List.mem_cons_of_mem _ hx)) (i:=i) (n:=n)
   by_cases h4:c.b<i
   ·rw[if_pos h4] at h
    have h5:(i:Int)-(c.b-c.a+1)=((i-(c.b.toNat-c.a.toNat+1):Nat):Int):=by omega
    rw[h5] at h
    rw[ih _ _ h,e,if_neg (by omega)]
    by_cases h6:i<=c.b.toNat+1
    ·rw[if_pos h6,show i-(c.b.toNat-c.a.toNat+1)=c.a.toNat by omega]
    ·rw[if_neg h6]
   ·rw[if_neg h4] at h
    rw[ih _ _ h,e,if_pos (by omega)]
theorem cuts_each:∀{l:List Cut}{n:Int},CutsOk n l->∀c∈l,0<=c.a/\c.a<=c.b
 | [],_,_,_,hc=>nomatch hc
 | d::l,n,h,c,hc=>by
  rcases List.mem_cons.1 hc with rfl|g
  ·exact⟨h.1,h.2.1⟩
  ·exact cuts_each h.2.2.2 c g
end Go.Dw
/- SJ: subtitles with no program in sight: what is wrong; as they stand after cuts. -/
namespace Go.Dw
open Go Go.Dx Go.Proofs
structure Ttl where
 a:Int
 b:Int
 text:List UInt8
def TtlR (_:Heap)(row:List Value)(x:Ttl):Prop:=row=[i64 x.a,i64 x.b,str x.text]
structure Ttl.Fit (x:Ttl):Prop where
 a:I64 x.a
 b:I64 x.b
 text:Len x.text
def textB (s:List UInt8):Bool:=decide (1<=s.length/\s.length<=80) && !decide (s.head?=some 32) && !decide (s.getLast?=some 32) && s.all fun c=>decide (32<=c.toNat/\c.toNat<=126)
def titlesGo:Int->List Ttl->Int
 | _,[]=>0
 | bef,x::xs=>if (x.a<0\/199999<x.a)\/(x.b<0\/199999<x.b) then 7 else if x.b<x.a\/x.a<=bef then 2 else if textB x.text=false then 6 else titlesGo x.b xs
def titlesErr (l:List Ttl):Int:=if 40<l.length then 3 else titlesGo (-1) l
theorem titlesGo_ok:∀{l:List Ttl}{bef:Int},titlesGo bef l=0->(∀x∈l,bef<x.a/\0<=x.a/\x.a<=x.b/\x.b<=199999/\textB x.text=true)/\l.Pairwise fun x y=>x.b<y.a
 | [],_,_=>⟨(fun _ h=>nomatch h),.nil⟩
 | x::xs,bef,h=>by
  rw[titlesGo] at h
  split at h
  ·cases h
  rename_i h1
  split at h
  ·cases h
  rename_i h2
  split at h
  ·cases h
  rename_i h3
  obtain⟨i1,i2⟩:=titlesGo_ok h
  refine⟨fun y hy=>?_,List.pairwise_cons.2 ⟨fun y hy=>(i1 y hy).1,i2⟩⟩
  rcases List.mem_cons.1 hy with rfl|g
  ·exact⟨by omega,by omega,by omega,by omega,by simpa using h3⟩
  ·have:=i1 y g
   exact⟨by omega,this.2⟩
def leftF (cs:List Cut)(a n:Nat):List Int:=(List.range' a n).filterMap fun j:Nat=>afterC cs (j:Int)
theorem cntC_mono (cs:List Cut){i j:Nat}(h:i<=j):cntC cs i<=cntC cs j:=by
 induction h with
 | refl=>exact Nat.le_refl _
 | step _ ih=>rw[cntC_succ];omega
def retime1 (cs:List Cut)(x:Ttl):Option Ttl :=
 if cntC cs x.a.toNat<cntC cs (x.b.toNat+1) then some ⟨(cntC cs x.a.toNat:Nat),(cntC cs (x.b.toNat+1):Nat)-1,x.text⟩ else none
def retimeS (cs:List Cut)(l:List Ttl):List Ttl:=l.filterMap (retime1 cs)
def onT (x:Ttl)(i:Int):Bool:=decide (x.a<=i/\i<=x.b)
theorem retime_on {cs:List Cut}(hc:∀c∈cs,0<=c.a/\c.a<=c.b){x:Ttl}(hx:0<=x.a/\x.a<=x.b){i:Nat}{n:Int}(hn:afterC cs (i:Int)=some n) :
  (onT x i=true->∃y,retime1 cs x=some y/\onT y n=true)/\(∀y,retime1 cs x=some y->onT y n=true->onT x i=true):=by
 have h1:=after_cnt hc hn
 have h2:=cntC_succ cs i
 rw[hn] at h2
 simp only[Option.isSome_some,if_true] at h2
 constructor
 ·intro h
  have h:=of_decide_eq_true h
  have m1:=cntC_mono cs (show x.a.toNat<=i by omega)
  have m2:=cntC_mono cs (show i+1<=x.b.toNat+1 by omega)
  refine⟨⟨(cntC cs x.a.toNat:Nat),(cntC cs (x.b.toNat+1):Nat)-1,x.text⟩,if_pos (by omega),decide_eq_true ?_⟩
  show ((cntC cs x.a.toNat:Nat):Int)<=n/\n<=((cntC cs (x.b.toNat+1):Nat):Int)-1
  omega
 ·intro y hy h
  unfold retime1 at hy
  split at hy
  ·cases hy
   have h:=of_decide_eq_true h
   simp only at h
   refine decide_eq_true ⟨Classical.byContradiction fun hl=>?_,Classical.byContradiction fun hl=>?_⟩
   ·have:=cntC_mono cs (show i+1<=x.a.toNat by omega)
    omega
   ·have:=cntC_mono cs (show x.b.toNat+1<=i by omega)
    omega
  ·cases hy
def saidS (l:List Ttl)(i:Int):List UInt8:=match l.find? fun x=>onT x i with|some x=>x.text|none=>[]
theorem said_retime {cs:List Cut}(hc:∀c∈cs,0<=c.a/\c.a<=c.b):∀{l:List Ttl},(∀x∈l,0<=x.a/\x.a<=x.b)->∀{i:Nat}{n:Int},afterC cs (i:Int)=some n->saidS (retimeS cs l) n=saidS l i
 | [],_,_,_,_=>rfl
 | x::l,hx,i,n,hn=>by
  have ih:=said_retime hc (l:=l) (fun y hy=>hx y (List.mem_cons_of_mem _ hy)) hn
  obtain⟨h1,h2⟩:=retime_on hc (hx x List.mem_cons_self) hn
  have e:saidS (x::l) i=if onT x i=true then x.text else saidS l i:=by
   unfold saidS
   rw[List.find?_cons]
   cases onT x i <;> rfl
  rw[e]
  unfold retimeS
  rw[List.filterMap_cons]
  cases hq:retime1 cs x with
  | none =>
   rw[if_neg fun h=>?_]
   ·exact ih
   ·obtain⟨y,hy,_⟩:=h1 h
    rw[hq] at hy;cases hy
  | some y =>
   simp only
   have e2:saidS (y::l.filterMap (retime1 cs)) n=if onT y n=true then y.text else saidS (l.filterMap (retime1 cs)) n:=by
    unfold saidS
    rw[List.find?_cons]
    cases onT y n <;> rfl
   have ht:y.text=x.text:=by
    unfold retime1 at hq
    split at hq
    ·cases hq;rfl
    ·cases hq
   rw[e2,ht]
   by_cases hon:onT x i=true
   ·obtain⟨z,hz,hzn⟩:=h1 hon
    rw[hq] at hz
    cases hz
    rw[if_pos hzn,if_pos hon]
   ·rw[if_neg hon,if_neg fun h=>hon (h2 y hq h)]
    exact ih
end Go.Dw
/- SD: chapter 11 with no program in sight: what is right with a task; how long shows take. -/
namespace Go.Dw
open Go Go.Dx Go.Proofs
structure ScOk (t:ScT):Prop where
 first:0<=t.first/\t.first<=80000
 lands:1<=t.lands.length/\t.lands.length<=8
 venues1:1<=t.venues.length/\t.venues.length<=8
 rights1:t.rights.length<=30
 prints1:t.prints.length<=12
 packs1:t.packs.length<=12
 keys1:t.keys.length<=30
 loans1:t.loans.length<=30
 travel:travelErr t=0
 venues:∀v∈t.venues,venueErr t v=0
 rights:∀r∈t.rights,rightErr t r=0
 prints:∀p∈t.prints,printErr t p=0
 packs:∀p∈t.packs,packErr p=0
 keys:∀k∈t.keys,keyErr t k=0
 loans:∀l∈t.loans,loanErr t l=0
end Go.Dw
/- SK: cuts and back; what cannot be read; with no program in sight. -/
namespace Go.Dw
open Go Go.Dx Go.Proofs
def beforeC:List Cut->Int->Int
 | [],n=>n
 | c::cs,n=>if c.a<=beforeC cs n then beforeC cs n+(c.b-c.a+1) else beforeC cs n
def unreadB (speed rate:Int)(x:Ttl):Bool:=decide (rate*(x.b-x.a+1)<(x.text.length:Int)*speed)
def unreadS (l:List Ttl)(speed rate:Int):List Nat:=(List.range l.length).filter fun i=>match l[i]? with|some x=>unreadB speed rate x|none=>false
theorem unread_less {l:List Ttl}{speed rate speed' rate':Int}(hx:∀x∈l,x.a<=x.b)(h1:speed'<=speed)(h2:rate<=rate'):(unreadS l speed' rate').Sublist (unreadS l speed rate):=by
 unfold unreadS
 have e:(List.range l.length).filter (fun i=>match l[i]? with|some x=>unreadB speed' rate' x|none=>false)=((List.range l.length).filter fun i=>match l[i]? with|some x=>unreadB speed rate x|none=>false).filter fun i=>match l[i]? with|some x=>unreadB speed' rate' x|none=>false:=by
  rw[List.filter_filter]
  refine List.filter_congr fun i hi=>?_
  have hi:=List.mem_range.1 hi
  rw[List.getElem?_eq_getElem hi]
  simp only
  have hx':=hx _ (List.getElem_mem hi)
  generalize l[i]=x at *
  cases hq:unreadB speed' rate' x
  ·rfl
  ·have hq:=of_decide_eq_true hq
   have g1:(x.text.length:Int)*speed'<=(x.text.length:Int)*speed:=Int.mul_le_mul_of_nonneg_left h1 (Int.natCast_nonneg _)
   have g2:rate*(x.b-x.a+1)<=rate'*(x.b-x.a+1):=Int.mul_le_mul_of_nonneg_right h2 (by omega)
   rw[show unreadB speed rate x=true from decide_eq_true (by omega)];rfl
 rw[e]
 exact List.filter_sublist
end Go.Dw
/- SN: chapter 11 with no program in sight: loans as the reference looks at them: the first way, the last way, and each between. -/
namespace Go.Dw
open Go Go.Dx Go.Proofs
def vlG (t:ScT)(y:ScL):Int:=venLand t y.venue
def badP (t:ScT)(a b:ScL):Prop:=trv t (vlG t a) (vlG t b)<0\/b.days.lo-a.days.hi<=trv t (vlG t a) (vlG t b)
instance (t:ScT)(a b:ScL):Decidable (badP t a b):=inferInstanceAs (Decidable (_\/_))
def chainG (t:ScT):ScL->List ScL->Bool
 | _,[]=>true
 | a,b::l=>!decide (badP t a b) && chainG t b l
def lastG:ScL->List ScL->ScL
 | a,[]=>a
 | _,b::l=>lastG b l
def awayG (t:ScT)(home:Int)(L:List ScL):Prop:=∃h:0<L.length,(trv t home (vlG t L[0])<0\/trv t (vlG t (L[L.length-1]'(by omega))) home<0)\/∃j,∃hj:j+1<L.length,badP t (L[j]'(by omega)) L[j+1]
def ofGk (granted:List ScL)(x:ScL)(k:Nat):List ScL:=ofG (granted.take k) x
end Go.Dw
