/- SA: chapter 11 with no program in sight: a task, what is wrong with it. -/
import Derived.Test.YtphonfljfmedgaaGreatDoorAG3
set_option linter.unusedVariables false
set_option linter.unusedSimpArgs false
namespace Go.Dw
open Go Go.Dx Go.Proofs
structure Sp where
 lo:Int
 hi:Int
structure ScV where
 name:List UInt8
 land:Int
 proj:Int
 speeds:Sp
 change:Int
 spool:Int
 turn:Int
 digital:Bool
structure ScR where
 work:List UInt8
 version:List UInt8
 land:Int
 days:Sp
structure ScP where
 name:List UInt8
 work:List UInt8
 version:List UInt8
 reels:List Int
 speeds:Sp
 land:Int
structure ScPk where
 name:List UInt8
 work:List UInt8
 version:List UInt8
 frames:Int
 speed:Int
structure ScK where
 pack:Int
 venue:Int
 window:Sp
structure ScL where
 print:Int
 venue:Int
 days:Sp
structure ScT where
 first:Int
 lands:List (List UInt8)
 travel:List (List Int)
 venues:List ScV
 rights:List ScR
 prints:List ScP
 packs:List ScPk
 keys:List ScK
 loans:List ScL
def ZMG (t:ScT)(n:Int):Prop:=n<0\/(t.lands.length:Int)-1<n
instance (t:ScT)(n:Int):Decidable (ZMG t n):=inferInstanceAs (Decidable (n<0\/_<n))
structure ScV.Fit (v:ScV):Prop where
 name:Len v.name
 land:I64 v.land
 proj:I64 v.proj
 speeds:I64 v.speeds.lo/\I64 v.speeds.hi
 change:I64 v.change
 spool:I64 v.spool
 turn:I64 v.turn
structure ScR.Fit (r:ScR):Prop where
 work:Len r.work
 version:Len r.version
 land:I64 r.land
 days:I64 r.days.lo/\I64 r.days.hi
structure ScP.Fit (p:ScP):Prop where
 name:Len p.name
 work:Len p.work
 version:Len p.version
 reels:Len p.reels
 reelsI:∀n∈p.reels,I64 n
 speeds:I64 p.speeds.lo/\I64 p.speeds.hi
 land:I64 p.land
structure ScPk.Fit (p:ScPk):Prop where
 name:Len p.name
 work:Len p.work
 version:Len p.version
 frames:I64 p.frames
 speed:I64 p.speed
structure ScK.Fit (k:ScK):Prop where
 pack:I64 k.pack
 venue:I64 k.venue
 window:I64 k.window.lo/\I64 k.window.hi
structure ScL.Fit (l:ScL):Prop where
 print:I64 l.print
 venue:I64 l.venue
 days:I64 l.days.lo/\I64 l.days.hi
structure ScT.Fit (t:ScT):Prop where
 first:I64 t.first
 lands:Len t.lands
 landsL:∀s∈t.lands,Len s
 travel:Len t.travel
 travelL:∀l∈t.travel,Len l/\∀n∈l,I64 n
 venues:Len t.venues
 venuesF:∀v∈t.venues,v.Fit
 rights:Len t.rights
 rightsF:∀r∈t.rights,r.Fit
 prints:Len t.prints
 printsF:∀p∈t.prints,p.Fit
 packs:Len t.packs
 packsF:∀p∈t.packs,p.Fit
 keys:Len t.keys
 keysF:∀k∈t.keys,k.Fit
 loans:Len t.loans
 loansF:∀l∈t.loans,l.Fit
end Go.Dw
namespace Go.Dw
open Go Go.Dx Go.Proofs
def inSp (s all:Sp):Prop:=all.lo<=s.lo/\s.hi<=all.hi
instance (s all:Sp):Decidable (inSp s all):=inferInstanceAs (Decidable (_/\_))
structure Cut where
 a:Int
 b:Int
def CutR (_:Heap)(row:List Value)(c:Cut):Prop:=row=[i64 c.a,i64 c.b]
def ZFs:Int->List Cut->Int×Int
 | n,[]=>(n,0)
 | n,c::cs=>if (c.a<0\/n-1<c.a)\/(c.b<0\/n-1<c.b) then (0,7) else if c.b<c.a then (0,2) else ZFs (n-(c.b-c.a+1)) cs
def cutS (n:Int)(l:List Cut):Int×Int:=if n<1\/200000<n then (0,7) else if 30<l.length then (0,3) else ZFs n l
def ZCo:List Cut->Int->Option Int
 | [],i=>some i
 | c::cs,i=>if c.a<=i/\i<=c.b then none else ZCo cs (if c.b<i then i-(c.b-c.a+1) else i)
def ZL1:Int->List Cut->Prop
 | _,[]=>True
 | n,c::cs=>0<=c.a/\c.a<=c.b/\c.b<n/\ZL1 (n-(c.b-c.a+1)) cs
theorem ZMm:∀{l:List Cut}{n:Int},0<=n->(ZFs n l).2=0->ZL1 n l/\0<=(ZFs n l).1/\(ZFs n l).1<=n
 | [],n,h0,_=>⟨trivial,h0,Int.le_refl _⟩
 | c::cs,n,h0,h=>by
  rw[ZFs] at h ⊢
  split at h
  ·cases h
  ·rename_i h1
   rw[if_neg h1]
   split at h
   ·cases h
   ·rename_i h2
    rw[if_neg h2];obtain⟨i1,i2,i3⟩:=ZMm (n:=n-(c.b-c.a+1)) (by omega) h;exact⟨⟨by omega,by omega,by omega,i1⟩,i2,by omega⟩
end Go.Dw
namespace Go.Dw
open Go Go.Dx Go.Proofs
end Go.Dw
