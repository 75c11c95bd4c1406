/- SA: chapter 11 with no program in sight: a task, what is wrong with it. -/
import Derived.Lib.AtoiAll
import Derived.Lib.ItoaNum
import Derived.Test.YtfgeelpahicelaaGreatDoorYG4
set_option linter.unusedVariables false
set_option linter.unusedSimpArgs false
namespace Go.Dw
open Go Go.Dx Go.Proofs
structure Sp where
 lo:Int
 hi:Int
structure ScV where
 name:List UInt8
 land:Int
 proj:Int
 speeds:Sp
 change:Int
 spool:Int
 turn:Int
 digital:Bool
structure ScR where
 work:List UInt8
 version:List UInt8
 land:Int
 days:Sp
structure ScP where
 name:List UInt8
 work:List UInt8
 version:List UInt8
 reels:List Int
 speeds:Sp
 land:Int
structure ScPk where
 name:List UInt8
 work:List UInt8
 version:List UInt8
 frames:Int
 speed:Int
structure ScK where
 pack:Int
 venue:Int
 window:Sp
structure ScL where
 print:Int
 venue:Int
 days:Sp
structure ScT where
 first:Int
 lands:List (List UInt8)
 travel:List (List Int)
 venues:List ScV
 rights:List ScR
 prints:List ScP
 packs:List ScPk
 keys:List ScK
 loans:List ScL
def ZLA (s:List UInt8)(ZAK:List (List UInt8)):Int:=if ZIW s=false then 6 else if s∈ZAK then 5 else 0
def oddS (s:Sp)(lo hi:Int):Int:=if (s.lo<lo\/hi<s.lo)\/(s.hi<lo\/hi<s.hi) then 7 else if s.hi<s.lo then 2 else 0
def ZFO (t:ScT):Int :=
 if t.travel.length≠t.lands.length then 2 else if (t.travel.any fun l=>decide (l.length≠t.lands.length))=true then 2
 else if (t.travel.any fun l=>l.any fun n=>decide (n < -1\/60<n))=true then 7 else 0
def ZIq (t:ScT)(n:Int):Prop:=n<0\/(t.lands.length:Int)-1<n
instance (t:ScT)(n:Int):Decidable (ZIq t n):=inferInstanceAs (Decidable (n<0\/_<n))
def ZIk (t:ScT)(v:ScV):Int :=
 if ZIq t v.land then 4 else if (v.proj<0\/2<v.proj)\/(v.change<0\/60<v.change)\/(v.turn<0\/60<v.turn)\/(v.spool<1\/200000<v.spool) then 7 else oddS v.speeds 1 60
def ZIz (t:ScT)(r:ScR):Int :=
 if ZIW r.work=false\/(r.version≠[]/\ZIW r.version=false) then 6 else if ZIq t r.land then 4 else oddS r.days 0 80000
def ZIp (t:ScT)(p:ScP):Int :=
 if ZIW p.work=false\/ZIW p.version=false then 6 else if p.reels.length<1\/12<p.reels.length then 3
 else if (p.reels.any fun n=>decide (n<1\/200000<n))=true then 7 else if oddS p.speeds 1 60≠0 then oddS p.speeds 1 60 else if ZIq t p.land then 4 else 0
def ZLW (p:ScPk):Int :=
 if ZIW p.work=false\/ZIW p.version=false then 6 else if (p.frames<1\/2400000<p.frames)\/(p.speed<1\/60<p.speed) then 7 else 0
def ZMo (t:ScT)(k:ScK):Int :=
 if (k.pack<0\/(t.packs.length:Int)-1<k.pack)\/(k.venue<0\/(t.venues.length:Int)-1<k.venue) then 4 else oddS k.window 0 57600
def ZLS (t:ScT)(l:ScL):Int :=
 if (l.print<0\/(t.prints.length:Int)-1<l.print)\/(l.venue<0\/(t.venues.length:Int)-1<l.venue) then 4 else oddS l.days 0 80000
def goNm {α:Type}(nm:α->List UInt8)(wrong:α->Int):Nat->List (List UInt8)->List α->Option (Nat×Int)
 | _,_,[]=>none
 | i,b,x::xs=>if ZLA (nm x) b≠0 then some (i,ZLA (nm x) b) else if wrong x≠0 then some (i,wrong x) else goNm nm wrong (i+1) (b++[nm x]) xs
def goEa {α:Type}(wrong:α->Int):Nat->List α->Option (Nat×Int)
 | _,[]=>none
 | i,x::xs=>if wrong x≠0 then some (i,wrong x) else goEa wrong (i+1) xs
def orE (part:Int):Option (Nat×Int)->Int×Int×Int->Int×Int×Int
 | some (i,e),_=>(part,(i:Nat),e)
 | none,x=>x
def ZNS (t:ScT):Int×Int×Int :=
 if t.first<0\/80000<t.first then (1,0,7)
 else if (t.lands.length<1\/8<t.lands.length)\/(t.venues.length<1\/8<t.venues.length)\/30<t.rights.length\/12<t.prints.length\/12<t.packs.length\/30<t.keys.length\/30<t.loans.length then (1,0,3)
 else orE 2 (goNm id (fun _=>0) 0 [] t.lands) (if ZFO t≠0 then (2,0,ZFO t)
 else orE 3 (goNm ScV.name (ZIk t) 0 [] t.venues) (orE 4 (goEa (ZIz t) 0 t.rights) (orE 5 (goNm ScP.name (ZIp t) 0 [] t.prints) (orE 6 (goNm ScPk.name ZLW 0 [] t.packs)
  (orE 7 (goEa (ZMo t) 0 t.keys) (orE 8 (goEa (ZLS t) 0 t.loans) (0,0,0)))))))
def ZJ8 (t:ScT):Int:=(ZNS t).2.2
def spVs (s:Sp):List Value:=[i64 s.lo,i64 s.hi]
def ScVR (_:Heap)(row:List Value)(v:ScV):Prop:=row=[str v.name,i64 v.land,i64 v.proj,i64 v.speeds.lo,i64 v.speeds.hi,i64 v.change,i64 v.spool,i64 v.turn,.bool v.digital]
def ScRR (_:Heap)(row:List Value)(r:ScR):Prop:=row=[str r.work,str r.version,i64 r.land,i64 r.days.lo,i64 r.days.hi]
def ScPR (h:Heap)(row:List Value)(p:ScP):Prop:=∃a c,row=[str p.name,str p.work,str p.version,.slice a p.reels.length c,i64 p.speeds.lo,i64 p.speeds.hi,i64 p.land]/\ZGt h a p.reels
def ZOP (_:Heap)(row:List Value)(p:ScPk):Prop:=row=[str p.name,str p.work,str p.version,i64 p.frames,i64 p.speed]
def ScKR (_:Heap)(row:List Value)(k:ScK):Prop:=row=[i64 k.pack,i64 k.venue,i64 k.window.lo,i64 k.window.hi]
def ScLR (_:Heap)(row:List Value)(l:ScL):Prop:=row=[i64 l.print,i64 l.venue,i64 l.days.lo,i64 l.days.hi]
def ZJZ (h:Heap)(row:List Value)(l:List Int):Prop:=∃a c,row=[.slice a l.length c]/\ZGt h a l
structure ParL {α:Type}(enc:α->Value)(h:Heap)(a:Option Addr)(l:List α)(cap:Nat):Prop where
 at':ZBT enc h a l
 le:l.length<=cap
 plain:l≠[]->∃b o,a=some ⟨b,o,none⟩
theorem ParL.ext {α:Type}{enc:α->Value}{h h':Heap}{a:Option Addr}{l:List α}{cap:Nat}(p:ParL enc h a l cap)(he:Ext h h'):ParL enc h' a l cap:=⟨p.at'.ext he,p.le,p.plain⟩
theorem ParL.take {α:Type}{enc:α->Value}{h:Heap}{a:Option Addr}{l:List α}{cap:Nat}(p:ParL enc h a l cap)(k:Nat):ZBT enc h a (l.take k):=by
 intro i hi;simp only[List.length_take] at hi;obtain⟨b,o,oa,e,hc⟩:=p.at' i (by omega);exact⟨b,o,oa,e,by simpa only[List.getElem_take] using hc⟩
def ZKw (h:Heap)(row:List Value)(t:ScT):Prop:=∃al cl at' ct a1 c1 a2 c2 a3 c3 a4 c4 a5 c5 a6 c6,row=[i64 t.first,.slice al t.lands.length cl,.slice at' t.travel.length ct,.slice a1 t.venues.length c1,.slice a2 t.rights.length c2,.slice a3 t.prints.length c3,.slice a4 t.packs.length c4,.slice a5 t.keys.length c5,.slice a6 t.loans.length c6] ∧
 ParL str h al t.lands cl/\ZAU 1 ZJZ h at' t.travel/\ZAU 9 ScVR h a1 t.venues/\ZAU 5 ScRR h a2 t.rights/\ZAU 7 ScPR h a3 t.prints/\ZAU 5 ZOP h a4 t.packs/\ZAU 4 ScKR h a5 t.keys/\ZAU 4 ScLR h a6 t.loans
theorem ScPR.ext {h h':Heap}{row:List Value}{p:ScP}(a:ScPR h row p)(he:Ext h h'):ScPR h' row p:=by
 obtain⟨x,c,e,h1⟩:=a;exact⟨x,c,e,h1.ext he⟩
theorem ZJZ.ext {h h':Heap}{row:List Value}{l:List Int}(a:ZJZ h row l)(he:Ext h h'):ZJZ h' row l:=by
 obtain⟨x,c,e,h1⟩:=a;exact⟨x,c,e,h1.ext he⟩
theorem ZKw.ext {h h':Heap}{row:List Value}{t:ScT}(a:ZKw h row t)(he:Ext h h'):ZKw h' row t:=by
 obtain⟨al,cl,at',ct,a1,c1,a2,c2,a3,c3,a4,c4,a5,c5,a6,c6,e,h1,h2,h3,h4,h5,h6,h7,h8⟩:=a;exact⟨al,cl,at',ct,a1,c1,a2,c2,a3,c3,a4,c4,a5,c5,a6,c6,e,h1.ext he,ZAU.ext (R:=ZJZ) (fun x y=>ZJZ.ext x y) h2 he,ZAU.ext (R:=ScVR) (fun x _=>x) h3 he,ZAU.ext (R:=ScRR) (fun x _=>x) h4 he,ZAU.ext (R:=ScPR) (fun x y=>ScPR.ext x y) h5 he,ZAU.ext (R:=ZOP) (fun x _=>x) h6 he,ZAU.ext (R:=ScKR) (fun x _=>x) h7 he,ZAU.ext (R:=ScLR) (fun x _=>x) h8 he⟩
structure ScV.Fit (v:ScV):Prop where
 name:Len v.name
 land:I64 v.land
 proj:I64 v.proj
 speeds:I64 v.speeds.lo/\I64 v.speeds.hi
 change:I64 v.change
 spool:I64 v.spool
 turn:I64 v.turn
structure ScR.Fit (r:ScR):Prop where
 work:Len r.work
 version:Len r.version
 land:I64 r.land
 days:I64 r.days.lo/\I64 r.days.hi
structure ScP.Fit (p:ScP):Prop where
 name:Len p.name
 work:Len p.work
 version:Len p.version
 reels:Len p.reels
 reelsI:∀n∈p.reels,I64 n
 speeds:I64 p.speeds.lo/\I64 p.speeds.hi
 land:I64 p.land
structure ScPk.Fit (p:ScPk):Prop where
 name:Len p.name
 work:Len p.work
 version:Len p.version
 frames:I64 p.frames
 speed:I64 p.speed
structure ScK.Fit (k:ScK):Prop where
 pack:I64 k.pack
 venue:I64 k.venue
 window:I64 k.window.lo/\I64 k.window.hi
structure ScL.Fit (l:ScL):Prop where
 print:I64 l.print
 venue:I64 l.venue
 days:I64 l.days.lo/\I64 l.days.hi
structure ScT.Fit (t:ScT):Prop where
 first:I64 t.first
 lands:Len t.lands
 landsL:∀s∈t.lands,Len s
 travel:Len t.travel
 travelL:∀l∈t.travel,Len l/\∀n∈l,I64 n
 venues:Len t.venues
 venuesF:∀v∈t.venues,v.Fit
 rights:Len t.rights
 rightsF:∀r∈t.rights,r.Fit
 prints:Len t.prints
 printsF:∀p∈t.prints,p.Fit
 packs:Len t.packs
 packsF:∀p∈t.packs,p.Fit
 keys:Len t.keys
 keysF:∀k∈t.keys,k.Fit
 loans:Len t.loans
 loansF:∀l∈t.loans,l.Fit
def noV:ScV:=⟨[],0,0,⟨0,0⟩,0,0,0,false⟩
def ZGT (t:ScT)(v:Int):Int:=(t.venues.getD v.toNat noV).land
def trv (t:ScT)(a b:Int):Int:=(t.travel.getD a.toNat []).getD b.toNat 0
def ZOi (t:ScT)(at':Int)(fr:Option Int)(y:ScL):Bool :=
 decide (trv t at' (ZGT t y.venue)<0) || (match fr with|none=>false|some f=>decide (y.days.lo-f<=trv t at' (ZGT t y.venue)))
def goG (t:ScT):Int->Option Int->List ScL->Option Int
 | at',_,[]=>some at'
 | at',fr,y::l=>if ZOi t at' fr y=true then none else goG t (ZGT t y.venue) (some y.days.hi) l
def canG (t:ScT)(home:Int)(l:List ScL):Bool:=match goG t home none l with|none=>false|some at'=>decide (0<=trv t at' home)
def loLe (a b:ScL):Prop:=a.days.lo<=b.days.lo
def insG (g:ScL)(l:List ScL):List ScL:=l.takeWhile (fun y=>decide (y.days.lo<g.days.lo))++g::l.dropWhile (fun y=>decide (y.days.lo<g.days.lo))
def ofG (granted:List ScL)(x:ScL):List ScL:=granted.foldl (fun l g=>if g.print=x.print then insG g l else l) [x]
def noP:ScP:=⟨[],[],[],[],⟨0,0⟩,0⟩
def ZOg (t:ScT)(p:Int):Int:=(t.prints.getD p.toNat noP).land
def ZMp (t:ScT)(granted:List ScL)(x:ScL):Bool:=canG t (ZOg t x.print) (ofG granted x)
def ZHA (t:ScT):List ScL×List Int:=t.loans.foldl (fun s x=>if ZMp t s.1 x=true then (s.1++[x],s.2++[0]) else (s.1,s.2++[210])) ([],[])
structure ScS where
 venue:Int
 print:Int
 pack:Int
 minute:Int
 speed:Int
 worth:Int
def ScSR (_:Heap)(row:List Value)(s:ScS):Prop:=row=[i64 s.venue,i64 s.print,i64 s.pack,i64 s.minute,i64 s.speed,i64 s.worth]
structure ScS.Fit (s:ScS):Prop where
 venue:I64 s.venue
 print:I64 s.print
 pack:I64 s.pack
 minute:I64 s.minute
 speed:I64 s.speed
 worth:I64 s.worth
def noPk:ScPk:=⟨[],[],[],0,0⟩
def ZBB (t:ScT)(s:ScS):ScV:=t.venues.getD s.venue.toNat noV
def prAt (t:ScT)(s:ScS):ScP:=t.prints.getD s.print.toNat noP
def pkAt (t:ScT)(s:ScS):ScPk:=t.packs.getD s.pack.toNat noPk
def ZCK (t:ScT)(s:ScS):Int :=
 if s.venue<0\/(t.venues.length:Int)-1<s.venue then 4 else if (s.print = -1 ↔ s.pack = -1) then 2
 else if (s.print ≠ -1/\(s.print<0\/(t.prints.length:Int)-1<s.print))\/(s.pack ≠ -1/\(s.pack<0\/(t.packs.length:Int)-1<s.pack)) then 4
 else if (s.minute<0\/57600<s.minute)\/(s.speed<1\/60<s.speed)\/(s.worth<0\/1000000<s.worth) then 7 else 0
def upS (a b:Int):Int:=(a+b-1) / b
def ZOG (l:List Int)(speed:Int):Int:=(l.map fun n=>upS n speed).sum
def ZOn (t:ScT)(s:ScS):Int :=
 if 0<=s.pack then upS (upS (pkAt t s).frames s.speed) 60
 else if (ZBB t s).proj<2 then upS (ZOG (prAt t s).reels s.speed) 60+(ZBB t s).change*(((prAt t s).reels.length:Int)-1) else upS (ZOG (prAt t s).reels s.speed) 60
def inSp (s all:Sp):Prop:=all.lo<=s.lo/\s.hi<=all.hi
instance (s all:Sp):Decidable (inSp s all):=inferInstanceAs (Decidable (_/\_))
def endS (t:ScT)(s:ScS):Int:=s.minute+ZOn t s
def ZJ0 (t:ScT)(s:ScS):Sp:=⟨t.first+s.minute / 1440,t.first+(endS t s-1) / 1440⟩
def ZND (t:ScT)(s:ScS):List UInt8:=if 0<=s.print then (prAt t s).work else (pkAt t s).work
def ZM2 (t:ScT)(s:ScS):List UInt8:=if 0<=s.print then (prAt t s).version else (pkAt t s).version
def ZNv (t:ScT)(s:ScS):Bool:=t.rights.any fun r=>decide (r.work=ZND t s/\(r.version=[]\/r.version=ZM2 t s)/\r.land=(ZBB t s).land/\inSp (ZJ0 t s) r.days)
def ZOa (t:ScT)(s:ScS):Bool:=(ZHA t).1.any fun l=>decide (l.print=s.print/\l.venue=s.venue/\inSp (ZJ0 t s) l.days)
def ZOs (t:ScT)(s:ScS):Int :=
 if ZOa t s=false then 212 else if (ZBB t s).proj=0\/¬((ZBB t s).speeds.lo<=s.speed/\s.speed<=(ZBB t s).speeds.hi)\/¬((prAt t s).speeds.lo<=s.speed/\s.speed<=(prAt t s).speeds.hi) then 215
 else if ((prAt t s).reels.any fun n=>decide ((ZBB t s).spool<n))=true then 216 else 0
def keyB (t:ScT)(s:ScS):Bool:=t.keys.any fun k=>decide (k.pack=s.pack/\k.venue=s.venue/\inSp ⟨s.minute,endS t s⟩ k.window)
def ZOe (t:ScT)(s:ScS):Int :=
 if (ZBB t s).digital=false then 213 else if keyB t s=false then 214 else if s.speed≠(pkAt t s).speed then 215 else 0
def whyS (t:ScT)(s:ScS):Int:=if ZNv t s=false then 211 else if 0<=s.print then ZOs t s else ZOe t s
def ZNo (t:ScT)(s:ScS):Int:=endS t s+(ZBB t s).turn
def ZOY (t:ScT)(a b:ScS):Bool:=decide (a.venue=b.venue/\a.minute<ZNo t b/\b.minute<ZNo t a)
def ZOU (t:ScT)(kept:List ScS)(s:ScS):Int:=if whyS t s≠0 then whyS t s else if (kept.any fun k=>ZOY t k s)=true then 217 else 0
def ZLw (t:ScT)(l:List ScS):List ScS×List Int:=l.foldl (fun p s=>(if ZOU t p.1 s=0 then p.1++[s] else p.1,p.2++[ZOU t p.1 s])) ([],[])
def ZII (t:ScT)(l:List ScS):Int:=if ZJ8 t≠0 then ZJ8 t else if 40<l.length then 3 else match l.find? fun s=>decide (ZCK t s≠0) with|some s=>ZCK t s|none=>0
structure Cut where
 a:Int
 b:Int
def CutR (_:Heap)(row:List Value)(c:Cut):Prop:=row=[i64 c.a,i64 c.b]
def ZOE:Int->List Cut->Int×Int
 | n,[]=>(n,0)
 | n,c::cs=>if (c.a<0\/n-1<c.a)\/(c.b<0\/n-1<c.b) then (0,7) else if c.b<c.a then (0,2) else ZOE (n-(c.b-c.a+1)) cs
def cutS (n:Int)(l:List Cut):Int×Int:=if n<1\/200000<n then (0,7) else if 30<l.length then (0,3) else ZOE n l
def ZJF:List Cut->Int->Option Int
 | [],i=>some i
 | c::cs,i=>if c.a<=i/\i<=c.b then none else ZJF cs (if c.b<i then i-(c.b-c.a+1) else i)
def ZOO:Int->List Cut->Prop
 | _,[]=>True
 | n,c::cs=>0<=c.a/\c.a<=c.b/\c.b<n/\ZOO (n-(c.b-c.a+1)) cs
def cntC (cs:List Cut)(i:Nat):Nat:=((List.range i).filter fun j:Nat=>(ZJF cs (j:Int)).isSome).length
structure Ttl where
 a:Int
 b:Int
 text:List UInt8
def TtlR (_:Heap)(row:List Value)(x:Ttl):Prop:=row=[i64 x.a,i64 x.b,str x.text]
structure Ttl.Fit (x:Ttl):Prop where
 a:I64 x.a
 b:I64 x.b
 text:Len x.text
def ZC2 (s:List UInt8):Bool:=decide (1<=s.length/\s.length<=80) && !decide (s.head?=some 32) && !decide (s.getLast?=some 32) && s.all fun c=>decide (32<=c.toNat/\c.toNat<=126)
def ZAj:Int->List Ttl->Int
 | _,[]=>0
 | bef,x::xs=>if (x.a<0\/199999<x.a)\/(x.b<0\/199999<x.b) then 7 else if x.b<x.a\/x.a<=bef then 2 else if ZC2 x.text=false then 6 else ZAj x.b xs
def ZAH (l:List Ttl):Int:=if 40<l.length then 3 else ZAj (-1) l
theorem ZEg:∀{l:List Ttl}{bef:Int},ZAj bef l=0->(∀x∈l,bef<x.a/\0<=x.a/\x.a<=x.b/\x.b<=199999/\ZC2 x.text=true)/\l.Pairwise fun x y=>x.b<y.a
 | [],_,_=>⟨(fun _ h=>nomatch h),.nil⟩
 | x::xs,bef,h=>by
  rw[ZAj] at h
  split at h
  ·cases h
  rename_i h1
  split at h
  ·cases h
  rename_i h2
  split at h
  ·cases h
  rename_i h3;obtain⟨i1,i2⟩:=ZEg h;refine⟨fun y hy=>?_,List.pairwise_cons.2 ⟨fun y hy=>(i1 y hy).1,i2⟩⟩
  rcases List.mem_cons.1 hy with rfl|g
  ·exact⟨by omega,by omega,by omega,by omega,by simpa using h3⟩
  ·have:=i1 y g
   exact⟨by omega,this.2⟩
def leftF (cs:List Cut)(a n:Nat):List Int:=(List.range' a n).filterMap fun j:Nat=>ZJF cs (j:Int)
def ZNi (cs:List Cut)(x:Ttl):Option Ttl :=
 if cntC cs x.a.toNat<cntC cs (x.b.toNat+1) then some ⟨(cntC cs x.a.toNat:Nat),(cntC cs (x.b.toNat+1):Nat)-1,x.text⟩ else none
def ZKG (cs:List Cut)(l:List Ttl):List Ttl:=l.filterMap (ZNi cs)
def onT (x:Ttl)(i:Int):Bool:=decide (x.a<=i/\i<=x.b)
def saidS (l:List Ttl)(i:Int):List UInt8:=match l.find? fun x=>onT x i with|some x=>x.text|none=>[]
structure ScOk (t:ScT):Prop where
 first:0<=t.first/\t.first<=80000
 lands:1<=t.lands.length/\t.lands.length<=8
 venues1:1<=t.venues.length/\t.venues.length<=8
 rights1:t.rights.length<=30
 prints1:t.prints.length<=12
 packs1:t.packs.length<=12
 keys1:t.keys.length<=30
 loans1:t.loans.length<=30
 travel:ZFO t=0
 venues:∀v∈t.venues,ZIk t v=0
 rights:∀r∈t.rights,ZIz t r=0
 prints:∀p∈t.prints,ZIp t p=0
 packs:∀p∈t.packs,ZLW p=0
 keys:∀k∈t.keys,ZMo t k=0
 loans:∀l∈t.loans,ZLS t l=0
def ZHz:List Cut->Int->Int
 | [],n=>n
 | c::cs,n=>if c.a<=ZHz cs n then ZHz cs n+(c.b-c.a+1) else ZHz cs n
def ZK5 (speed rate:Int)(x:Ttl):Bool:=decide (rate*(x.b-x.a+1)<(x.text.length:Int)*speed)
def ZJ9 (l:List Ttl)(speed rate:Int):List Nat:=(List.range l.length).filter fun i=>match l[i]? with|some x=>ZK5 speed rate x|none=>false
def vlG (t:ScT)(y:ScL):Int:=ZGT t y.venue
def badP (t:ScT)(a b:ScL):Prop:=trv t (vlG t a) (vlG t b)<0\/b.days.lo-a.days.hi<=trv t (vlG t a) (vlG t b)
instance (t:ScT)(a b:ScL):Decidable (badP t a b):=inferInstanceAs (Decidable (_\/_))
def ZNs (t:ScT):ScL->List ScL->Bool
 | _,[]=>true
 | a,b::l=>!decide (badP t a b) && ZNs t b l
def ZOm:ScL->List ScL->ScL
 | a,[]=>a
 | _,b::l=>ZOm b l
def awayG (t:ScT)(home:Int)(L:List ScL):Prop:=∃h:0<L.length,(trv t home (vlG t L[0])<0\/trv t (vlG t (L[L.length-1]'(by omega))) home<0)\/∃j,∃hj:j+1<L.length,badP t (L[j]'(by omega)) L[j+1]
def ofGk (granted:List ScL)(x:ScL)(k:Nat):List ScL:=ofG (granted.take k) x
end Go.Dw
namespace Go.Dw
open Go
def isD (c:UInt8):Bool:=decide (48<=c.toNat/\c.toNat<=57)
def valG (n:Nat)(l:List UInt8):Nat:=l.foldl (fun n c=>10*n+(c.toNat-48)) n
def numR (l:List UInt8):Nat:=if (1<=l.length/\l.length<=4)/\l.head?≠some 48/\l.all isD=true then valG 0 l else 0
theorem ZHP (n:Nat)(l:List UInt8)(c:UInt8):valG n (l++[c])=10*valG n l+(c.toNat-48):=by
 unfold valG;rw[List.foldl_append];rfl
theorem ZIB:∀(l:List UInt8)(n:Nat),l.all isD=true->valG n l<(n+1)*10 ^ l.length
 | [],n,_=>by simp[valG]
 | c::l,n,h=>by
  simp only[List.all_cons,Bool.and_eq_true] at h;have h1:=ZIB l (10*n+(c.toNat-48)) h.2;have h2:valG n (c::l)=valG (10*n+(c.toNat-48)) l:=rfl;have h3:=of_decide_eq_true h.1;have h4:(n+1)*10 ^ (c::l).length=(10*n+10)*10 ^ l.length:=by
   rw[List.length_cons,Nat.pow_succ,Nat.mul_comm (10 ^ l.length) 10,<-Nat.mul_assoc,Nat.add_mul,Nat.mul_comm n 10]
  have h5:(10*n+(c.toNat-48)+1)*10 ^ l.length<=(10*n+10)*10 ^ l.length:=Nat.mul_le_mul_right _ (by omega);omega
theorem ZEI:∀(l:List UInt8)(n:Nat),l.all isD=true->(n+1)*10 ^ l.length<=100000000->Lib.parseUint10 n l=.ok (valG n l)
 | [],n,_,_=>rfl
 | c::l,n,h,hb=>by
  simp only[List.all_cons,Bool.and_eq_true] at h;have h3:=of_decide_eq_true h.1;have h4:(n+1)*10 ^ (c::l).length=(10*n+10)*10 ^ l.length:=by
   rw[List.length_cons,Nat.pow_succ,Nat.mul_comm (10 ^ l.length) 10,<-Nat.mul_assoc,Nat.add_mul,Nat.mul_comm n 10]
  have h5:(10*n+(c.toNat-48)+1)*10 ^ l.length<=(10*n+10)*10 ^ l.length:=Nat.mul_le_mul_right _ (by omega);have h6:10*n+10<=(10*n+10)*10 ^ l.length:=Nat.le_mul_of_pos_right _ (Nat.pow_pos (by decide));have e:n*10+(c.toNat-48)=10*n+(c.toNat-48):=by omega
  have ih:=ZEI l (n*10+(c.toNat-48)) h.2 (by rw[e];omega);rw[Lib.parseUint10,if_pos h3,if_neg (by omega),if_neg (by omega),ih]
  show Lib.NumEnd.ok _=Lib.NumEnd.ok (valG (10*n+(c.toNat-48)) l)
  rw[e]
theorem ZEx {u:Nat}(h:u<10):(UInt8.ofNat (48+u)).toNat=48+u:=by
 rw[UInt8.toNat_ofNat'];omega
theorem ZEu (u:Nat):(Lib.decDigits u).all isD=true/\valG 0 (Lib.decDigits u)=u/\Lib.decDigits u≠[]/\(1<=u->(Lib.decDigits u).head?≠some 48)/\∀k,1<=k->u<10 ^ k->(Lib.decDigits u).length<=k:=by
 induction u using Nat.strongRecOn with
 | ind u ih =>
  rw[Lib.decDigits]
  by_cases h:u<10
  ·rw[dif_pos h]
   have e:=ZEx h;refine⟨?_,?_,by simp,fun h1=>?_,fun k hk _=>hk⟩
   ·simp only[List.all_cons,List.all_nil,Bool.and_true]
    exact decide_eq_true (by omega)
   ·show 10*0+((UInt8.ofNat (48+u)).toNat-48)=u
    omega
   ·intro hq
    simp only[List.head?_cons,Option.some.injEq] at hq;have:=congrArg UInt8.toNat hq;rw[e] at this;have h48:(48:UInt8).toNat=48:=rfl;omega
  ·rw[dif_neg h]
   obtain⟨i1,i2,i3,i4,i5⟩:=ih (u / 10) (by omega);have e:=ZEx (show u % 10<10 by omega);refine⟨?_,?_,by simp,fun _=>?_,fun k hk hu=>?_⟩
   ·rw[List.all_append,i1]
    simp only[List.all_cons,List.all_nil,Bool.and_true,Bool.true_and];exact decide_eq_true (by omega)
   ·rw[ZHP,i2,e];omega
   ·have:=i4 (by omega)
    cases hq:Lib.decDigits (u / 10) with
    | nil=>exact absurd hq i3
    | cons y r=>rw[hq] at this;simpa using this
   ·rw[List.length_append]
    cases k with
    | zero=>omega
    | succ k =>
     rw[Nat.pow_succ] at hu;have hk0:1<=k:=by
      cases k with
      | zero=>simp at hu;omega
      | succ k=>omega
     have:=i5 k hk0 (by omega);simp only[List.length_cons,List.length_nil];omega
end Go.Dw
