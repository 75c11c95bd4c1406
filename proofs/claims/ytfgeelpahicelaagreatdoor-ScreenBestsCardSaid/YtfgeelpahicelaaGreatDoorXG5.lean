/- SA: chapter 11 with no program in sight: a task, what is wrong with it. -/
import Derived.Test.YtfgeelpahicelaaGreatDoorXG3
set_option linter.unusedVariables false
set_option linter.unusedSimpArgs false
namespace Go.Dw
open Go Go.Dx Go.Proofs
structure Sp where
 lo:Int
 hi:Int
structure ScV where
 name:List UInt8
 land:Int
 proj:Int
 speeds:Sp
 change:Int
 spool:Int
 turn:Int
 digital:Bool
structure ScR where
 work:List UInt8
 version:List UInt8
 land:Int
 days:Sp
structure ScP where
 name:List UInt8
 work:List UInt8
 version:List UInt8
 reels:List Int
 speeds:Sp
 land:Int
structure ScPk where
 name:List UInt8
 work:List UInt8
 version:List UInt8
 frames:Int
 speed:Int
structure ScK where
 pack:Int
 venue:Int
 window:Sp
structure ScL where
 print:Int
 venue:Int
 days:Sp
structure ScT where
 first:Int
 lands:List (List UInt8)
 travel:List (List Int)
 venues:List ScV
 rights:List ScR
 prints:List ScP
 packs:List ScPk
 keys:List ScK
 loans:List ScL
def ZAe (s:List UInt8)(ZAi:List (List UInt8)):Int:=if ZBv s=false then 6 else if s∈ZAi then 5 else 0
def oddS (s:Sp)(lo hi:Int):Int:=if (s.lo<lo\/hi<s.lo)\/(s.hi<lo\/hi<s.hi) then 7 else if s.hi<s.lo then 2 else 0
def ZBB (t:ScT):Int :=
 if t.travel.length≠t.lands.length then 2 else if (t.travel.any fun l=>decide (l.length≠t.lands.length))=true then 2
 else if (t.travel.any fun l=>l.any fun n=>decide (n < -1\/60<n))=true then 7 else 0
def ZCa (t:ScT)(n:Int):Prop:=n<0\/(t.lands.length:Int)-1<n
instance (t:ScT)(n:Int):Decidable (ZCa t n):=inferInstanceAs (Decidable (n<0\/_<n))
def ZAt (t:ScT)(v:ScV):Int :=
 if ZCa t v.land then 4 else if (v.proj<0\/2<v.proj)\/(v.change<0\/60<v.change)\/(v.turn<0\/60<v.turn)\/(v.spool<1\/200000<v.spool) then 7 else oddS v.speeds 1 60
def ZA5 (t:ScT)(r:ScR):Int :=
 if ZBv r.work=false\/(r.version≠[]/\ZBv r.version=false) then 6 else if ZCa t r.land then 4 else oddS r.days 0 80000
def ZAp (t:ScT)(p:ScP):Int :=
 if ZBv p.work=false\/ZBv p.version=false then 6 else if p.reels.length<1\/12<p.reels.length then 3
 else if (p.reels.any fun n=>decide (n<1\/200000<n))=true then 7 else if oddS p.speeds 1 60≠0 then oddS p.speeds 1 60 else if ZCa t p.land then 4 else 0
def ZA8 (p:ScPk):Int :=
 if ZBv p.work=false\/ZBv p.version=false then 6 else if (p.frames<1\/2400000<p.frames)\/(p.speed<1\/60<p.speed) then 7 else 0
def ZCJ (t:ScT)(k:ScK):Int :=
 if (k.pack<0\/(t.packs.length:Int)-1<k.pack)\/(k.venue<0\/(t.venues.length:Int)-1<k.venue) then 4 else oddS k.window 0 57600
def ZA3 (t:ScT)(l:ScL):Int :=
 if (l.print<0\/(t.prints.length:Int)-1<l.print)\/(l.venue<0\/(t.venues.length:Int)-1<l.venue) then 4 else oddS l.days 0 80000
def goNm {α:Type}(nm:α->List UInt8)(wrong:α->Int):Nat->List (List UInt8)->List α->Option (Nat×Int)
 | _,_,[]=>none
 | i,b,x::xs=>if ZAe (nm x) b≠0 then some (i,ZAe (nm x) b) else if wrong x≠0 then some (i,wrong x) else goNm nm wrong (i+1) (b++[nm x]) xs
def goEa {α:Type}(wrong:α->Int):Nat->List α->Option (Nat×Int)
 | _,[]=>none
 | i,x::xs=>if wrong x≠0 then some (i,wrong x) else goEa wrong (i+1) xs
def orE (part:Int):Option (Nat×Int)->Int×Int×Int->Int×Int×Int
 | some (i,e),_=>(part,(i:Nat),e)
 | none,x=>x
def ZAw (t:ScT):Int×Int×Int :=
 if t.first<0\/80000<t.first then (1,0,7)
 else if (t.lands.length<1\/8<t.lands.length)\/(t.venues.length<1\/8<t.venues.length)\/30<t.rights.length\/12<t.prints.length\/12<t.packs.length\/30<t.keys.length\/30<t.loans.length then (1,0,3)
 else orE 2 (goNm id (fun _=>0) 0 [] t.lands) (if ZBB t≠0 then (2,0,ZBB t)
 else orE 3 (goNm ScV.name (ZAt t) 0 [] t.venues) (orE 4 (goEa (ZA5 t) 0 t.rights) (orE 5 (goNm ScP.name (ZAp t) 0 [] t.prints) (orE 6 (goNm ScPk.name ZA8 0 [] t.packs)
  (orE 7 (goEa (ZCJ t) 0 t.keys) (orE 8 (goEa (ZA3 t) 0 t.loans) (0,0,0)))))))
def ZCU (t:ScT):Int:=(ZAw t).2.2
def spVs (s:Sp):List Value:=[i64 s.lo,i64 s.hi]
def ScVR (_:Heap)(row:List Value)(v:ScV):Prop:=row=[str v.name,i64 v.land,i64 v.proj,i64 v.speeds.lo,i64 v.speeds.hi,i64 v.change,i64 v.spool,i64 v.turn,.bool v.digital]
def ScRR (_:Heap)(row:List Value)(r:ScR):Prop:=row=[str r.work,str r.version,i64 r.land,i64 r.days.lo,i64 r.days.hi]
def ScPR (h:Heap)(row:List Value)(p:ScP):Prop:=∃a c,row=[str p.name,str p.work,str p.version,.slice a p.reels.length c,i64 p.speeds.lo,i64 p.speeds.hi,i64 p.land]/\ZBz h a p.reels
def ZEV (_:Heap)(row:List Value)(p:ScPk):Prop:=row=[str p.name,str p.work,str p.version,i64 p.frames,i64 p.speed]
def ScKR (_:Heap)(row:List Value)(k:ScK):Prop:=row=[i64 k.pack,i64 k.venue,i64 k.window.lo,i64 k.window.hi]
def ScLR (_:Heap)(row:List Value)(l:ScL):Prop:=row=[i64 l.print,i64 l.venue,i64 l.days.lo,i64 l.days.hi]
def ZCG (h:Heap)(row:List Value)(l:List Int):Prop:=∃a c,row=[.slice a l.length c]/\ZBz h a l
structure ParL {α:Type}(enc:α->Value)(h:Heap)(a:Option Addr)(l:List α)(cap:Nat):Prop where
 at':ZBL enc h a l
 le:l.length<=cap
 plain:l≠[]->∃b o,a=some ⟨b,o,none⟩
theorem ParL.ext {α:Type}{enc:α->Value}{h h':Heap}{a:Option Addr}{l:List α}{cap:Nat}(p:ParL enc h a l cap)(he:Ext h h'):ParL enc h' a l cap:=⟨p.at'.ext he,p.le,p.plain⟩
theorem ParL.take {α:Type}{enc:α->Value}{h:Heap}{a:Option Addr}{l:List α}{cap:Nat}(p:ParL enc h a l cap)(k:Nat):ZBL enc h a (l.take k):=by
 intro i hi;simp only[List.length_take] at hi;obtain⟨b,o,oa,e,hc⟩:=p.at' i (by omega);exact⟨b,o,oa,e,by simpa only[List.getElem_take] using hc⟩
def ZBX (h:Heap)(row:List Value)(t:ScT):Prop:=∃al cl at' ct a1 c1 a2 c2 a3 c3 a4 c4 a5 c5 a6 c6,row=[i64 t.first,.slice al t.lands.length cl,.slice at' t.travel.length ct,.slice a1 t.venues.length c1,.slice a2 t.rights.length c2,.slice a3 t.prints.length c3,.slice a4 t.packs.length c4,.slice a5 t.keys.length c5,.slice a6 t.loans.length c6] ∧
 ParL str h al t.lands cl/\ZAN 1 ZCG h at' t.travel/\ZAN 9 ScVR h a1 t.venues/\ZAN 5 ScRR h a2 t.rights/\ZAN 7 ScPR h a3 t.prints/\ZAN 5 ZEV h a4 t.packs/\ZAN 4 ScKR h a5 t.keys/\ZAN 4 ScLR h a6 t.loans
theorem ScPR.ext {h h':Heap}{row:List Value}{p:ScP}(a:ScPR h row p)(he:Ext h h'):ScPR h' row p:=by
 obtain⟨x,c,e,h1⟩:=a;exact⟨x,c,e,h1.ext he⟩
theorem ZCG.ext {h h':Heap}{row:List Value}{l:List Int}(a:ZCG h row l)(he:Ext h h'):ZCG h' row l:=by
 obtain⟨x,c,e,h1⟩:=a;exact⟨x,c,e,h1.ext he⟩
theorem ZBX.ext {h h':Heap}{row:List Value}{t:ScT}(a:ZBX h row t)(he:Ext h h'):ZBX h' row t:=by
 obtain⟨al,cl,at',ct,a1,c1,a2,c2,a3,c3,a4,c4,a5,c5,a6,c6,e,h1,h2,h3,h4,h5,h6,h7,h8⟩:=a;exact⟨al,cl,at',ct,a1,c1,a2,c2,a3,c3,a4,c4,a5,c5,a6,c6,e,h1.ext he,ZAN.ext (R:=ZCG) (fun x y=>ZCG.ext x y) h2 he,ZAN.ext (R:=ScVR) (fun x _=>x) h3 he,ZAN.ext (R:=ScRR) (fun x _=>x) h4 he,ZAN.ext (R:=ScPR) (fun x y=>ScPR.ext x y) h5 he,ZAN.ext (R:=ZEV) (fun x _=>x) h6 he,ZAN.ext (R:=ScKR) (fun x _=>x) h7 he,ZAN.ext (R:=ScLR) (fun x _=>x) h8 he⟩
structure ScV.Fit (v:ScV):Prop where
 name:Len v.name
 land:I64 v.land
 proj:I64 v.proj
 speeds:I64 v.speeds.lo/\I64 v.speeds.hi
 change:I64 v.change
 spool:I64 v.spool
 turn:I64 v.turn
structure ScR.Fit (r:ScR):Prop where
 work:Len r.work
 version:Len r.version
 land:I64 r.land
 days:I64 r.days.lo/\I64 r.days.hi
structure ScP.Fit (p:ScP):Prop where
 name:Len p.name
 work:Len p.work
 version:Len p.version
 reels:Len p.reels
 reelsI:∀n∈p.reels,I64 n
 speeds:I64 p.speeds.lo/\I64 p.speeds.hi
 land:I64 p.land
structure ScPk.Fit (p:ScPk):Prop where
 name:Len p.name
 work:Len p.work
 version:Len p.version
 frames:I64 p.frames
 speed:I64 p.speed
structure ScK.Fit (k:ScK):Prop where
 pack:I64 k.pack
 venue:I64 k.venue
 window:I64 k.window.lo/\I64 k.window.hi
structure ScL.Fit (l:ScL):Prop where
 print:I64 l.print
 venue:I64 l.venue
 days:I64 l.days.lo/\I64 l.days.hi
structure ScT.Fit (t:ScT):Prop where
 first:I64 t.first
 lands:Len t.lands
 landsL:∀s∈t.lands,Len s
 travel:Len t.travel
 travelL:∀l∈t.travel,Len l/\∀n∈l,I64 n
 venues:Len t.venues
 venuesF:∀v∈t.venues,v.Fit
 rights:Len t.rights
 rightsF:∀r∈t.rights,r.Fit
 prints:Len t.prints
 printsF:∀p∈t.prints,p.Fit
 packs:Len t.packs
 packsF:∀p∈t.packs,p.Fit
 keys:Len t.keys
 keysF:∀k∈t.keys,k.Fit
 loans:Len t.loans
 loansF:∀l∈t.loans,l.Fit
def noV:ScV:=⟨[],0,0,⟨0,0⟩,0,0,0,false⟩
def ZBu (t:ScT)(v:Int):Int:=(t.venues.getD v.toNat noV).land
def trv (t:ScT)(a b:Int):Int:=(t.travel.getD a.toNat []).getD b.toNat 0
def ZJR (t:ScT)(at':Int)(fr:Option Int)(y:ScL):Bool :=
 decide (trv t at' (ZBu t y.venue)<0) || (match fr with|none=>false|some f=>decide (y.days.lo-f<=trv t at' (ZBu t y.venue)))
def goG (t:ScT):Int->Option Int->List ScL->Option Int
 | at',_,[]=>some at'
 | at',fr,y::l=>if ZJR t at' fr y=true then none else goG t (ZBu t y.venue) (some y.days.hi) l
def canG (t:ScT)(home:Int)(l:List ScL):Bool:=match goG t home none l with|none=>false|some at'=>decide (0<=trv t at' home)
def loLe (a b:ScL):Prop:=a.days.lo<=b.days.lo
theorem ZJ7 {t:ScT}:∀{l:List ScL}{at':Int}{fr:Option Int},l.Pairwise loLe->(∀y∈l,y.days.lo<=y.days.hi)->¬(l.map fun y=>y.days.lo).Nodup->goG t at' fr l=none
 | [],_,_,_,_,h=>absurd List.nodup_nil h
 | [y],_,_,_,_,h=>absurd (by simp) h
 | y::z::l,at',fr,hs,hv,h=>by
  rw[goG]
  split
  ·rfl
  rw[List.pairwise_cons] at hs
  by_cases e:z.days.lo=y.days.lo
  ·rw[goG,if_pos]
   unfold ZJR;have:=hv y List.mem_cons_self
   by_cases n0:trv t (ZBu t y.venue) (ZBu t z.venue)<0
   ·rw[decide_eq_true n0];rfl
   ·simp only[Bool.or_eq_true,decide_eq_true_eq]
    right
    omega
  ·refine ZJ7 hs.2 (fun x hx=>hv x (List.mem_cons_of_mem _ hx)) fun hn=>h ?_
   rw[List.map_cons,List.nodup_cons];refine⟨fun hm=>?_,hn⟩;obtain⟨x,hx,ex⟩:=List.mem_map.1 hm;have h1:=hs.1 z List.mem_cons_self;unfold loLe at h1
   rcases List.mem_cons.1 hx with rfl|hx
   ·exact e ex
   ·have h2:=(List.pairwise_cons.1 hs.2).1 x hx
    unfold loLe at h2;omega
theorem ZH4 {t:ScT}{home:Int}{l:List ScL}(hs:l.Pairwise loLe)(hv:∀y∈l,y.days.lo<=y.days.hi)(h:¬(l.map fun y=>y.days.lo).Nodup):canG t home l=false:=by
 unfold canG;rw[ZJ7 hs hv h]
theorem ZEb {α:Type}{R:α->α->Prop}(hR:∀a b,R a b->R b a->False):∀{l l':List α},l.Perm l'->l.Pairwise R->l'.Pairwise R->l=l'
 | [],l',hp,_,_=>(List.Perm.nil_eq hp)
 | a::l,l',hp,hs,hs'=>by
  cases l' with
  | nil=>exact absurd hp.length_eq (by simp)
  | cons b l' =>
   rw[List.pairwise_cons] at hs hs';have e:a=b:=by
    rcases List.mem_cons.1 (hp.subset List.mem_cons_self) with e|g
    ·exact e
    ·rcases List.mem_cons.1 (hp.symm.subset List.mem_cons_self) with e|k
     ·exact e.symm
     ·exact (hR _ _ (hs.1 b k) (hs'.1 a g)).elim
   subst e;rw[ZEb hR ((List.perm_cons a).1 hp) hs.2 hs'.2]
theorem ZHU {l:List ScL}(hs:l.Pairwise loLe)(hn:(l.map fun y=>y.days.lo).Nodup):l.Pairwise fun a b=>a.days.lo<b.days.lo:=by
 induction l with
 | nil=>exact .nil
 | cons a l ih =>
  rw[List.pairwise_cons] at hs ⊢;rw[List.map_cons,List.nodup_cons] at hn;refine⟨fun b hb=>?_,ih hs.2 hn.2⟩;have h1:=hs.1 b hb;unfold loLe at h1;have:a.days.lo≠b.days.lo:=fun e=>hn.1 (List.mem_map.2 ⟨b,hb,e.symm⟩);omega
theorem ZN8 {t:ScT}{home:Int}{l l':List ScL}(hp:l.Perm l')(hs:l.Pairwise loLe)(hs':l'.Pairwise loLe)(hv:∀y∈l,y.days.lo<=y.days.hi):canG t home l=canG t home l':=by
 by_cases hn:(l.map fun y=>y.days.lo).Nodup
 ·have hn':(l'.map fun y=>y.days.lo).Nodup:=(hp.map _).nodup_iff.1 hn
  rw[ZEb (R:=fun a b:ScL=>a.days.lo<b.days.lo) (fun a b h1 h2=>by omega) hp (ZHU hs hn) (ZHU hs' hn')]
 ·have hn':¬(l'.map fun y=>y.days.lo).Nodup:=fun h=>hn ((hp.map _).nodup_iff.2 h)
  rw[ZH4 hs hv hn,ZH4 hs' (fun y hy=>hv y (hp.symm.subset hy)) hn']
def insG (g:ScL)(l:List ScL):List ScL:=l.takeWhile (fun y=>decide (y.days.lo<g.days.lo))++g::l.dropWhile (fun y=>decide (y.days.lo<g.days.lo))
theorem ZHJ (g:ScL)(l:List ScL):(insG g l).Perm (g::l):=by
 unfold insG;have h:=List.takeWhile_append_dropWhile (p:=fun y:ScL=>decide (y.days.lo<g.days.lo)) (l:=l);refine List.perm_middle.trans ?_;rw[h]
theorem ZHc {g:ScL}:∀{l:List ScL},l.Pairwise loLe->(insG g l).Pairwise loLe
 | [],_=>by unfold insG;simp
 | a::l,hs=>by
  rw[List.pairwise_cons] at hs
  by_cases c:a.days.lo<g.days.lo
  ·have e:insG g (a::l)=a::insG g l:=by unfold insG;rw[List.takeWhile_cons_of_pos (by simpa using c),List.dropWhile_cons_of_pos (by simpa using c)];rfl
   rw[e,List.pairwise_cons];refine⟨fun b hb=>?_,ZHc hs.2⟩
   rcases List.mem_cons.1 ((ZHJ g l).subset hb) with rfl|hb
   ·exact Int.le_of_lt c
   ·exact hs.1 b hb
  ·have e:insG g (a::l)=g::a::l:=by unfold insG;rw[List.takeWhile_cons_of_neg (by simpa using c),List.dropWhile_cons_of_neg (by simpa using c)];rfl
   rw[e,List.pairwise_cons,List.pairwise_cons];refine⟨fun b hb=>?_,hs⟩
   rcases List.mem_cons.1 hb with rfl|hb
   ·unfold loLe;omega
   ·have:=hs.1 b hb
    unfold loLe at this ⊢;omega
def ofG (granted:List ScL)(x:ScL):List ScL:=granted.foldl (fun l g=>if g.print=x.print then insG g l else l) [x]
theorem ZM6 {granted:List ScL}{x:ScL}:(ofG granted x).Pairwise loLe:=by
 unfold ofG;have:∀(l:List ScL),l.Pairwise loLe->(granted.foldl (fun l g=>if g.print=x.print then insG g l else l) l).Pairwise loLe:=by
  induction granted with
  | nil=>exact fun _ h=>h
  | cons g gs ih =>
   intro l hl;rw[List.foldl_cons];refine ih _ ?_
   split
   ·exact ZHc hl
   ·exact hl
 exact this _ (by simp)
theorem ZIw {granted:List ScL}{x:ScL}:(ofG granted x).Perm (x::granted.filter fun g=>decide (g.print=x.print)):=by
 unfold ofG;have:∀(l:List ScL),(granted.foldl (fun l g=>if g.print=x.print then insG g l else l) l).Perm (l++granted.filter fun g=>decide (g.print=x.print)):=by
  induction granted with
  | nil=>exact fun l=>by simp
  | cons g gs ih =>
   intro l;rw[List.foldl_cons,List.filter_cons]
   by_cases c:g.print=x.print
   ·rw[if_pos c,if_pos (by simpa using c)]
    refine (ih _).trans ?_;refine ((ZHJ g l).append_right _).trans ?_;rw[List.cons_append];exact List.perm_middle.symm
   ·rw[if_neg c,if_neg (by simpa using c)]
    exact ih _
 exact this [x]
def noP:ScP:=⟨[],[],[],[],⟨0,0⟩,0⟩
def ZFG (t:ScT)(p:Int):Int:=(t.prints.getD p.toNat noP).land
def ZD4 (t:ScT)(granted:List ScL)(x:ScL):Bool:=canG t (ZFG t x.print) (ofG granted x)
def ZBa (t:ScT):List ScL×List Int:=t.loans.foldl (fun s x=>if ZD4 t s.1 x=true then (s.1++[x],s.2++[0]) else (s.1,s.2++[210])) ([],[])
structure ScS where
 venue:Int
 print:Int
 pack:Int
 minute:Int
 speed:Int
 worth:Int
def ScSR (_:Heap)(row:List Value)(s:ScS):Prop:=row=[i64 s.venue,i64 s.print,i64 s.pack,i64 s.minute,i64 s.speed,i64 s.worth]
structure ScS.Fit (s:ScS):Prop where
 venue:I64 s.venue
 print:I64 s.print
 pack:I64 s.pack
 minute:I64 s.minute
 speed:I64 s.speed
 worth:I64 s.worth
def noPk:ScPk:=⟨[],[],[],0,0⟩
def ZAr (t:ScT)(s:ScS):ScV:=t.venues.getD s.venue.toNat noV
def prAt (t:ScT)(s:ScS):ScP:=t.prints.getD s.print.toNat noP
def pkAt (t:ScT)(s:ScS):ScPk:=t.packs.getD s.pack.toNat noPk
def ZAQ (t:ScT)(s:ScS):Int :=
 if s.venue<0\/(t.venues.length:Int)-1<s.venue then 4 else if (s.print = -1 ↔ s.pack = -1) then 2
 else if (s.print ≠ -1/\(s.print<0\/(t.prints.length:Int)-1<s.print))\/(s.pack ≠ -1/\(s.pack<0\/(t.packs.length:Int)-1<s.pack)) then 4
 else if (s.minute<0\/57600<s.minute)\/(s.speed<1\/60<s.speed)\/(s.worth<0\/1000000<s.worth) then 7 else 0
def upS (a b:Int):Int:=(a+b-1) / b
theorem ZHV {a b:Int}(hb:1<=b):upS a b=(a-1) / b+1:=by
 unfold upS;rw[show a+b-1=(a-1)+1*b by omega,Int.add_mul_ediv_right _ _ (by omega)]
theorem ZIa {a b:Int}(ha:1<=a)(hb:1<=b):1<=upS a b:=by
 rw[ZHV hb];have:=Int.ediv_nonneg (show 0<=a-1 by omega) (show 0<=b by omega);omega
theorem ZQZ {a b:Int}(ha:1<=a)(hb:1<=b):upS a b<=a:=by
 rw[ZHV hb];have:=Int.ediv_le_self b (show 0<=a-1 by omega);omega
theorem ZR6 {a b:Int}(hb:1<=b):upS (upS a b) 60=upS a (60*b):=by
 rw[ZHV (show (1:Int)<=60 by decide),ZHV hb,ZHV (show 1<=60*b by omega),show (a-1) / b+1-1=(a-1) / b by omega,Int.ediv_ediv_of_nonneg (by omega),Int.mul_comm]
def ZCT (l:List Int)(speed:Int):Int:=(l.map fun n=>upS n speed).sum
def ZCw (t:ScT)(s:ScS):Int :=
 if 0<=s.pack then upS (upS (pkAt t s).frames s.speed) 60
 else if (ZAr t s).proj<2 then upS (ZCT (prAt t s).reels s.speed) 60+(ZAr t s).change*(((prAt t s).reels.length:Int)-1) else upS (ZCT (prAt t s).reels s.speed) 60
def inSp (s all:Sp):Prop:=all.lo<=s.lo/\s.hi<=all.hi
instance (s all:Sp):Decidable (inSp s all):=inferInstanceAs (Decidable (_/\_))
def endS (t:ScT)(s:ScS):Int:=s.minute+ZCw t s
def ZDN (t:ScT)(s:ScS):Sp:=⟨t.first+s.minute / 1440,t.first+(endS t s-1) / 1440⟩
def ZEs (t:ScT)(s:ScS):List UInt8:=if 0<=s.print then (prAt t s).work else (pkAt t s).work
def ZEq (t:ScT)(s:ScS):List UInt8:=if 0<=s.print then (prAt t s).version else (pkAt t s).version
def ZEc (t:ScT)(s:ScS):Bool:=t.rights.any fun r=>decide (r.work=ZEs t s/\(r.version=[]\/r.version=ZEq t s)/\r.land=(ZAr t s).land/\inSp (ZDN t s) r.days)
def ZR4 (t:ScT)(s:ScS):Bool:=(ZBa t).1.any fun l=>decide (l.print=s.print/\l.venue=s.venue/\inSp (ZDN t s) l.days)
def ZG5 (t:ScT)(s:ScS):Int :=
 if ZR4 t s=false then 212 else if (ZAr t s).proj=0\/¬((ZAr t s).speeds.lo<=s.speed/\s.speed<=(ZAr t s).speeds.hi)\/¬((prAt t s).speeds.lo<=s.speed/\s.speed<=(prAt t s).speeds.hi) then 215
 else if ((prAt t s).reels.any fun n=>decide ((ZAr t s).spool<n))=true then 216 else 0
def keyB (t:ScT)(s:ScS):Bool:=t.keys.any fun k=>decide (k.pack=s.pack/\k.venue=s.venue/\inSp ⟨s.minute,endS t s⟩ k.window)
def ZN7 (t:ScT)(s:ScS):Int :=
 if (ZAr t s).digital=false then 213 else if keyB t s=false then 214 else if s.speed≠(pkAt t s).speed then 215 else 0
def whyS (t:ScT)(s:ScS):Int:=if ZEc t s=false then 211 else if 0<=s.print then ZG5 t s else ZN7 t s
def ZA0 (t:ScT)(s:ScS):Int:=endS t s+(ZAr t s).turn
def ZDD (t:ScT)(a b:ScS):Bool:=decide (a.venue=b.venue/\a.minute<ZA0 t b/\b.minute<ZA0 t a)
def ZSQ (t:ScT)(kept:List ScS)(s:ScS):Int:=if whyS t s≠0 then whyS t s else if (kept.any fun k=>ZDD t k s)=true then 217 else 0
def ZP6 (t:ScT)(l:List ScS):List ScS×List Int:=l.foldl (fun p s=>(if ZSQ t p.1 s=0 then p.1++[s] else p.1,p.2++[ZSQ t p.1 s])) ([],[])
def ZD5 (t:ScT)(l:List ScS):Int:=if ZCU t≠0 then ZCU t else if 40<l.length then 3 else match l.find? fun s=>decide (ZAQ t s≠0) with|some s=>ZAQ t s|none=>0
theorem ZRF {α:Type}{p:List α->Prop}(h0:p [])(h1:∀l x,p l->p (l++[x]))(l:List α):p l:=by
 have:∀r:List α,p r.reverse:=fun r=>by
  induction r with
  | nil=>exact h0
  | cons x r ih=>rw[List.reverse_cons];exact h1 _ x ih
 have h:=this l.reverse
 rwa [List.reverse_reverse] at h
theorem ZJK {α:Type}{nm:α->List UInt8}{wrong:α->Int}:∀{l:List α}{i:Nat}{b:List (List UInt8)}{x:Nat×Int},goNm nm wrong i b l=some x->x.2≠0
 | [],_,_,_,h=>nomatch h
 | a::l,i,b,x,h=>by
  rw[goNm] at h
  split at h
  ·rename_i h1;cases h;exact h1
  ·split at h
   ·rename_i h1;cases h;exact h1
   ·exact ZJK h
theorem ZFY {α:Type}{nm:α->List UInt8}{wrong:α->Int}:∀{l:List α}{i:Nat}{b:List (List UInt8)},goNm nm wrong i b l=none->∀x∈l,wrong x=0
 | [],_,_,_,_,hx=>nomatch hx
 | a::l,i,b,h,x,hx=>by
  rw[goNm] at h
  split at h
  ·cases h
  ·split at h
   ·cases h
   ·rename_i h1
    rcases List.mem_cons.1 hx with rfl|g
    ·exact Classical.not_not.1 h1
    ·exact ZFY h x g
theorem ZMb {α:Type}{wrong:α->Int}:∀{l:List α}{i:Nat}{x:Nat×Int},goEa wrong i l=some x->x.2≠0
 | [],_,_,h=>nomatch h
 | a::l,i,x,h=>by
  rw[goEa] at h
  split at h
  ·rename_i h1;cases h;exact h1
  ·exact ZMb h
theorem ZFA {α:Type}{wrong:α->Int}:∀{l:List α}{i:Nat},goEa wrong i l=none->∀x∈l,wrong x=0
 | [],_,_,_,hx=>nomatch hx
 | a::l,i,h,x,hx=>by
  rw[goEa] at h
  split at h
  ·cases h
  ·rename_i h1
   rcases List.mem_cons.1 hx with rfl|g
   ·exact Classical.not_not.1 h1
   ·exact ZFA h x g
theorem ZDh {part:Int}{o:Option (Nat×Int)}{x:Int×Int×Int}(ho:∀y,o=some y->y.2≠0)(h:(orE part o x).2.2=0):o=none/\x.2.2=0:=by
 cases o with
 | none=>exact⟨rfl,h⟩
 | some y=>exact absurd h (ho y rfl)
structure ScOk (t:ScT):Prop where
 first:0<=t.first/\t.first<=80000
 lands:1<=t.lands.length/\t.lands.length<=8
 venues1:1<=t.venues.length/\t.venues.length<=8
 rights1:t.rights.length<=30
 prints1:t.prints.length<=12
 packs1:t.packs.length<=12
 keys1:t.keys.length<=30
 loans1:t.loans.length<=30
 travel:ZBB t=0
 venues:∀v∈t.venues,ZAt t v=0
 rights:∀r∈t.rights,ZA5 t r=0
 prints:∀p∈t.prints,ZAp t p=0
 packs:∀p∈t.packs,ZA8 p=0
 keys:∀k∈t.keys,ZCJ t k=0
 loans:∀l∈t.loans,ZA3 t l=0
theorem ZOM {t:ScT}(h:ZCU t=0):ScOk t:=by
 unfold ZCU ZAw at h
 split at h
 ·cases h
 rename_i h1
 split at h
 ·cases h
 rename_i h2;obtain⟨_,h⟩:=ZDh (fun _=>ZJK) h
 split at h
 ·rename_i h3;exact absurd h h3
 rename_i h3;obtain⟨a3,h⟩:=ZDh (fun _=>ZJK) h;obtain⟨a4,h⟩:=ZDh (fun _=>ZMb) h;obtain⟨a5,h⟩:=ZDh (fun _=>ZJK) h;obtain⟨a6,h⟩:=ZDh (fun _=>ZJK) h;obtain⟨a7,h⟩:=ZDh (fun _=>ZMb) h;obtain⟨a8,h⟩:=ZDh (fun _=>ZMb) h;exact⟨by omega,by omega,by omega,by omega,by omega,by omega,by omega,by omega,Classical.not_not.1 h3,ZFY a3,ZFA a4,ZFY a5,ZFY a6,ZFA a7,ZFA a8⟩
theorem ZDb {t:ScT}{v:ScV}(h:ZAt t v=0):(0<=v.land/\v.land<t.lands.length)/\(0<=v.proj/\v.proj<=2)/\(0<=v.change/\v.change<=60)/\(0<=v.turn/\v.turn<=60)/\(1<=v.spool/\v.spool<=200000)/\oddS v.speeds 1 60=0:=by
 unfold ZAt at h
 split at h
 ·cases h
 rename_i ha;unfold ZCa at ha
 split at h
 ·cases h
 exact⟨by omega,by omega,by omega,by omega,by omega,h⟩
theorem ZFS {t:ScT}{p:ScP}(h:ZAp t p=0):(1<=p.reels.length/\p.reels.length<=12)/\(∀n∈p.reels,1<=n/\n<=200000)/\oddS p.speeds 1 60=0/\(0<=p.land/\p.land<t.lands.length):=by
 unfold ZAp at h
 split at h
 ·cases h
 split at h
 ·cases h
 split at h
 ·cases h
 rename_i h3
 split at h
 ·rename_i h4;exact absurd h h4
 rename_i h4
 split at h
 ·cases h
 rename_i ha;unfold ZCa at ha;refine⟨by omega,fun n hn=>?_,Classical.not_not.1 h4,by omega⟩;have h5:(p.reels.any fun n=>decide (n<1\/200000<n))=false:=by
  cases hq:p.reels.any fun n=>decide (n<1\/200000<n)
  ·rfl
  ·exact absurd hq h3
 rw[List.any_eq_false] at h5;have:=h5 n hn;simp only[decide_eq_true_eq] at this;omega
theorem ZK3 {p:ScPk}(h:ZA8 p=0):(1<=p.frames/\p.frames<=2400000)/\(1<=p.speed/\p.speed<=60):=by
 unfold ZA8 at h
 split at h
 ·cases h
 split at h
 ·cases h
 omega
theorem ZAo {t:ScT}{s:ScS}(h:ZAQ t s=0):(0<=s.venue/\s.venue<t.venues.length)/\((0<=s.print/\s.print<t.prints.length/\s.pack = -1)\/(0<=s.pack/\s.pack<t.packs.length/\s.print = -1))/\(0<=s.minute/\s.minute<=57600)/\(1<=s.speed/\s.speed<=60)/\(0<=s.worth/\s.worth<=1000000):=by
 unfold ZAQ at h
 split at h
 ·cases h
 split at h
 ·cases h
 rename_i h2
 split at h
 ·cases h
 split at h
 ·cases h
 refine⟨by omega,?_,by omega,by omega,by omega⟩
 by_cases c:s.print = -1
 ·by_cases d:s.pack = -1
  ·exact absurd ⟨fun _=>d,fun _=>c⟩ h2
  ·exact .inr ⟨by omega,by omega,c⟩
 ·by_cases d:s.pack = -1
  ·exact .inl ⟨by omega,by omega,d⟩
  ·exact absurd ⟨fun e=>absurd e c,fun e=>absurd e d⟩ h2
theorem ZIy {α:Type}{l:List α}{n:Int}{d:α}(h0:0<=n)(h1:n<l.length):l.getD n.toNat d∈l:=by
 have h:n.toNat<l.length:=by omega
 rw[List.getD_eq_getElem?_getD,List.getElem?_eq_getElem h];exact List.getElem_mem h
theorem ZG0 {t:ScT}(hO:ScOk t){s:ScS}(h:ZAQ t s=0):ZAt t (ZAr t s)=0:=hO.venues _ (ZIy (ZAo h).1.1 (ZAo h).1.2)
theorem ZO8 {t:ScT}(hO:ScOk t){s:ScS}(h:ZAQ t s=0)(hp:s.pack = -1):ZAp t (prAt t s)=0:=by
 rcases (ZAo h).2.1 with ⟨h1,h2,_⟩|⟨h1,_,_⟩
 ·exact hO.prints _ (ZIy h1 h2)
 ·omega
theorem ZRJ {t:ScT}(hO:ScOk t){s:ScS}(h:ZAQ t s=0)(hp:0<=s.pack):ZA8 (pkAt t s)=0:=by
 rcases (ZAo h).2.1 with ⟨_,_,h1⟩|⟨h1,h2,_⟩
 ·omega
 ·exact hO.packs _ (ZIy h1 h2)
theorem ZFQ {l:List Int}{speed:Int}(hs:1<=speed)(hl:∀n∈l,1<=n/\n<=200000):(l.length:Int)<=ZCT l speed/\ZCT l speed<=200000*l.length:=by
 unfold ZCT
 induction l with
 | nil=>exact⟨Int.le_refl _,Int.le_refl _⟩
 | cons a l ih =>
  have h1:=ih fun n hn=>hl n (List.mem_cons_of_mem _ hn);have h2:=hl a List.mem_cons_self;have h3:=ZIa h2.1 hs;have h4:=ZQZ h2.1 hs;simp only[List.map_cons,List.sum_cons,List.length_cons];omega
theorem ZEN {t:ScT}(hO:ScOk t){s:ScS}(h:ZAQ t s=0):1<=ZCw t s/\ZCw t s<=100000:=by
 obtain⟨_,hpp,_,hsp,_⟩:=ZAo h;obtain⟨_,_,hch,_⟩:=ZDb (ZG0 hO h);unfold ZCw
 split
 ·rename_i hp
  obtain⟨h1,_⟩:=ZK3 (ZRJ hO h hp);have h2:=ZIa h1.1 hsp.1;have h3:=ZQZ h1.1 hsp.1;have h4:=ZIa h2 (show (1:Int)<=60 by decide);refine⟨h4,?_⟩;rw[ZHV (by decide)];omega
 ·rename_i hp
  have hp':s.pack = -1:=by omega
  obtain⟨h1,h2,_⟩:=ZFS (ZO8 hO h hp');have h3:=ZFQ hsp.1 h2;have h4:=ZIa (show 1<=ZCT (prAt t s).reels s.speed by omega) (show (1:Int)<=60 by decide);have h5:upS (ZCT (prAt t s).reels s.speed) 60<=40000:=by rw[ZHV (by decide)];omega
  have h6:0<=(ZAr t s).change*(((prAt t s).reels.length:Int)-1):=Int.mul_nonneg hch.1 (by omega);have h7:(ZAr t s).change*(((prAt t s).reels.length:Int)-1)<=60*11:=Int.mul_le_mul hch.2 (by omega) (by omega) (by decide)
  split <;> omega
def vlG (t:ScT)(y:ScL):Int:=ZBu t y.venue
def badP (t:ScT)(a b:ScL):Prop:=trv t (vlG t a) (vlG t b)<0\/b.days.lo-a.days.hi<=trv t (vlG t a) (vlG t b)
instance (t:ScT)(a b:ScL):Decidable (badP t a b):=inferInstanceAs (Decidable (_\/_))
def ZHG (t:ScT):ScL->List ScL->Bool
 | _,[]=>true
 | a,b::l=>!decide (badP t a b) && ZHG t b l
def ZNp:ScL->List ScL->ScL
 | a,[]=>a
 | _,b::l=>ZNp b l
theorem ZJN {t:ScT}:∀{l:List ScL}{a:ScL},goG t (vlG t a) (some a.days.hi) l=if ZHG t a l=true then some (vlG t (ZNp a l)) else none
 | [],a=>rfl
 | b::l,a=>by
  have hs:ZJR t (vlG t a) (some a.days.hi) b=decide (badP t a b):=by
   show (decide (trv t (vlG t a) (vlG t b)<0) || decide (b.days.lo-a.days.hi<=trv t (vlG t a) (vlG t b)))=_
   rw[Bool.eq_iff_iff,Bool.or_eq_true,decide_eq_true_iff,decide_eq_true_iff,decide_eq_true_iff];exact Iff.rfl
  rw[goG,hs,ZHG]
  by_cases c:badP t a b
  ·rw[decide_eq_true c,if_pos rfl];rfl
  ·rw[decide_eq_false c,if_neg (by decide)]
   exact ZJN (l:=l) (a:=b)
theorem ZNP {t:ScT}{home:Int}{a:ScL}{l:List ScL}:canG t home (a::l)=(decide (0<=trv t home (vlG t a)) && ZHG t a l && decide (0<=trv t (vlG t (ZNp a l)) home)):=by
 unfold canG;rw[goG];have hs:ZJR t home none a=decide (trv t home (vlG t a)<0):=by unfold ZJR vlG;rw[Bool.or_false]
 rw[hs]
 by_cases c:trv t home (vlG t a)<0
 ·rw[decide_eq_true c,if_pos rfl,decide_eq_false (show ¬0<=trv t home (vlG t a) by omega)];rfl
 ·rw[decide_eq_false c,if_neg (by decide),decide_eq_true (show 0<=trv t home (vlG t a) by omega),Bool.true_and]
  have:=ZJN (t:=t) (a:=a) (l:=l);rw[show goG t (ZBu t a.venue) (some a.days.hi) l=_ from this]
  by_cases d:ZHG t a l=true
  ·rw[if_pos d,d];rfl
  ·rw[if_neg d]
   rw[Bool.not_eq_true] at d;rw[d];rfl
theorem ZLs:∀{a:ScL}{l:List ScL},ZNp a l=(a::l)[l.length]'(by simp)
 | _,[]=>rfl
 | a,b::l=>by
  rw[ZNp,ZLs (a:=b) (l:=l)];simp
theorem ZHx {t:ScT}:∀{a:ScL}{l:List ScL},ZHG t a l=true ↔ ∀j (hj:j+1<(a::l).length),¬badP t ((a::l)[j]'(by omega)) (a::l)[j+1]
 | a,[]=>by
  refine⟨fun _ j hj=>?_,fun _=>rfl⟩;simp at hj
 | a,b::l=>by
  rw[ZHG,Bool.and_eq_true,ZHx (a:=b) (l:=l)]
  constructor
  ·rintro⟨h1,h2⟩ j hj
   cases j with
   | zero=>simpa using h1
   | succ j=>exact h2 j (by simpa using hj)
  ·intro h
   refine⟨by simpa using h 0 (by simp),fun j hj=>?_⟩;exact h (j+1) (by simpa using hj)
def ZRT (t:ScT)(home:Int)(L:List ScL):Prop:=∃h:0<L.length,(trv t home (vlG t L[0])<0\/trv t (vlG t (L[L.length-1]'(by omega))) home<0)\/∃j,∃hj:j+1<L.length,badP t (L[j]'(by omega)) L[j+1]
theorem ZPO {t:ScT}{home:Int}{L:List ScL}(hL:0<L.length):canG t home L=true ↔ ¬ZRT t home L:=by
 cases L with
 | nil=>simp at hL
 | cons a l =>
  rw[ZNP,Bool.and_eq_true,Bool.and_eq_true,ZHx,ZLs];simp only[decide_eq_true_eq];unfold ZRT
  constructor
  ·rintro⟨⟨h1,h2⟩,h3⟩ ⟨_,(g|g)|⟨j,hj,g⟩⟩
   ·simp at g;omega
   ·simp at g;omega
   ·exact h2 j hj g
  ·intro h
   refine⟨⟨?_,fun j hj g=>h ⟨hL,.inr ⟨j,hj,g⟩⟩⟩,?_⟩
   ·refine Int.not_lt.1 fun g=>h ⟨hL,.inl (.inl ?_)⟩
    simpa using g
   ·refine Int.not_lt.1 fun g=>h ⟨hL,.inl (.inr ?_)⟩
    simpa using g
theorem ZNy {g:ScL}:∀{L:List ScL}{k:Nat},k<=L.length->(∀j (hj:j<L.length),j<k->L[j].days.lo<g.days.lo)->(∀h:k<L.length,¬L[k].days.lo<g.days.lo)->insG g L=L.take k++g::L.drop k
 | [],k,hk,_,_=>by
  have:k=0:=by simpa using hk
  subst this;rfl
 | a::L,0,_,_,h=>by
  have h0:=h (by simp);unfold insG;rw[List.takeWhile_cons_of_neg (by simpa using h0),List.dropWhile_cons_of_neg (by simpa using h0)]
  rfl
 | a::L,k+1,hk,h1,h2=>by
  have h0:=h1 0 (by simp) (by omega);have ih:=ZNy (g:=g) (L:=L) (k:=k) (by simpa using hk) (fun j hj hjk=>h1 (j+1) (by simpa using hj) (by omega)) (fun h=>h2 (by simpa using h));unfold insG at ih ⊢;rw[List.takeWhile_cons_of_pos (by simpa using h0),List.dropWhile_cons_of_pos (by simpa using h0)];rw[List.cons_append,ih]
  rfl
def ofGk (granted:List ScL)(x:ScL)(k:Nat):List ScL:=ofG (granted.take k) x
theorem ZJf {granted:List ScL}{x:ScL}{k:Nat}(hk:k<granted.length):ofGk granted x (k+1)=if granted[k].print=x.print then insG granted[k] (ofGk granted x k) else ofGk granted x k:=by
 unfold ofGk ofG;have:granted.take (k+1)=granted.take k++[granted[k]]:=by rw[List.take_add_one,List.getElem?_eq_getElem hk];rfl
 rw[this,List.foldl_append];rfl
theorem ZQQ (g:ScL)(L:List ScL):(insG g L).length=L.length+1:=(ZHJ g L).length_eq
theorem ZL8 {granted:List ScL}{x:ScL}:∀{k:Nat},k<=granted.length->1<=(ofGk granted x k).length/\(ofGk granted x k).length<=k+1
 | 0,_=>by unfold ofGk ofG;simp
 | k+1,hk=>by
  have ih:=ZL8 (granted:=granted) (x:=x) (k:=k) (by omega);rw[ZJf (by omega)]
  split
  ·rw[ZQQ];omega
  ·omega
theorem ZQJ {granted:List ScL}{x:ScL}{k:Nat}:∀y∈ofGk granted x k,y=x\/y∈granted:=fun y hy=>by
 have:=ZIw.subset hy
 rcases List.mem_cons.1 this with e|g
 ·exact .inl e
 ·exact .inr (List.mem_of_mem_take (List.mem_filter.1 g).1)
def ZRD:List (List UInt8)->List (List UInt8)->Prop
 | _,[]=>True
 | b,s::l=>ZAe s b=0/\ZRD (b++[s]) l
def twoV (v:ScV):ScV:=⟨v.name,v.land,2,v.speeds,v.change,v.spool,v.turn,v.digital⟩
def twoT (t:ScT)(k:Nat):ScT:=⟨t.first,t.lands,t.travel,t.venues.set k (twoV (t.venues.getD k noV)),t.rights,t.prints,t.packs,t.keys,t.loans⟩
def ofP (G:List ScL)(p:Int):List ScL:=G.filter fun g=>decide (g.print=p)
def ZSK (t:ScT)(G:List ScL):Prop:=∀p,ofP G p≠[]->∃S,S.Perm (ofP G p)/\S.Pairwise loLe/\canG t (ZFG t p) S=true
def stepG (t:ScT)(s:List ScL×List Int)(x:ScL):List ScL×List Int:=if ZD4 t s.1 x=true then (s.1++[x],s.2++[0]) else (s.1,s.2++[210])
structure ZSk (t:ScT)(l:List ScL)(s:List ScL×List Int):Prop where
 len:s.2.length=l.length
 chains:ZSK t s.1
 sub:s.1=((l.zip s.2).filter fun p=>decide (p.2=0)).map Prod.fst
 vals:∀e∈s.2,e=0\/e=210
structure Iv where
 s:Int
 e:Int
 w:Int
structure Iv.Ok (x:Iv):Prop where
 s0:0<=x.s
 se:x.s<x.e
 w0:0<=x.w
def ZBs {α:Type}(p:α->Prop) [DecidablePred p](f:α->Int)(n0:Int)(l:List α):Int:=l.foldl (fun n x=>if p x then max n (f x) else n) n0
section
variable {α:Type}{p:α->Prop} [DecidablePred p]{f g:α->Int}
theorem ZCW:∀{l:List α}{n0:Int},n0<=ZBs p f n0 l
 | [],_=>Int.le_refl _
 | x::l,n0=>by
  unfold ZBs;rw[List.foldl_cons];have h:=ZCW (l:=l) (n0:=if p x then max n0 (f x) else n0);refine Int.le_trans ?_ h
  split
  ·exact Int.le_max_left _ _
  ·exact Int.le_refl _
theorem ZFC:∀{l:List α}{n0:Int}{x:α},x∈l->p x->f x<=ZBs p f n0 l
 | y::l,n0,x,hx,hp=>by
  unfold ZBs;rw[List.foldl_cons]
  rcases List.mem_cons.1 hx with rfl|g
  ·rw[if_pos hp]
   exact Int.le_trans (Int.le_max_right _ _) ZCW
  ·exact ZFC g hp
theorem ZIs:∀{l:List α}{n0:Int},ZBs p f n0 l=n0\/∃x∈l,p x/\ZBs p f n0 l=f x
 | [],_=>.inl rfl
 | y::l,n0=>by
  have h:=ZIs (l:=l) (n0:=if p y then max n0 (f y) else n0);have e:ZBs p f n0 (y::l)=ZBs p f (if p y then max n0 (f y) else n0) l:=rfl;rw[e]
  rcases h with h|⟨x,hx,hp,h⟩
  ·by_cases hp:p y
   ·rw[h,if_pos hp]
    rcases Int.le_total n0 (f y) with g|g
    ·exact .inr ⟨y,List.mem_cons_self,hp,Int.max_eq_right g⟩
    ·exact .inl (Int.max_eq_left g)
   ·rw[h,if_neg hp];exact .inl rfl
  ·exact .inr ⟨x,List.mem_cons_of_mem _ hx,hp,h⟩
theorem ZDk:∀{l:List α}{n0:Int},(∀x∈l,p x->f x=g x)->ZBs p f n0 l=ZBs p g n0 l
 | [],_,_=>rfl
 | y::l,n0,h=>by
  unfold ZBs;rw[List.foldl_cons,List.foldl_cons]
  by_cases hp:p y
  ·rw[if_pos hp,if_pos hp,h y List.mem_cons_self hp]
   exact ZDk fun x hx=>h x (List.mem_cons_of_mem _ hx)
  ·rw[if_neg hp,if_neg hp]
   exact ZDk fun x hx=>h x (List.mem_cons_of_mem _ hx)
theorem ZGY {l:List α}{n0 c:Int}(h0:n0<=c)(h:∀x∈l,p x->f x<=c):ZBs p f n0 l<=c:=by
 rcases ZIs (p:=p) (f:=f) (l:=l) (n0:=n0) with e|⟨x,hx,hp,e⟩
 ·rw[e];exact h0
 ·rw[e];exact h x hx hp
end
def ZLZ (l:List Iv):Nat->Int->Int
 | 0,_=>0
 | f+1,b=>ZBs (fun x:Iv=>x.e<=b) (fun x=>x.w+ZLZ l f x.s) 0 l
theorem ZH9 {l:List Iv}(hl:∀x∈l,x.Ok):∀{f g:Nat}{b:Int},b<f->b<g->0<=b->ZLZ l f b=ZLZ l g b
 | 0,_,_,h,_,h0=>by omega
 | _,0,_,_,h,h0=>by omega
 | f+1,g+1,b,h1,h2,h0=>by
  rw[ZLZ,ZLZ];refine ZDk fun x hx hp=>?_;have h:=hl x hx;have hs:=h.s0;have hse:=h.se;rw[ZH9 hl (f:=f) (g:=g) (b:=x.s) (by omega) (by omega) hs]
def ZBH (l:List Iv)(b:Int):Int:=ZLZ l (b.toNat+1) b
theorem ZE9 {l:List Iv}(hl:∀x∈l,x.Ok){b:Int}(hb:0<=b):ZBH l b=ZBs (fun x:Iv=>x.e<=b) (fun x=>x.w+ZBH l x.s) 0 l:=by
 unfold ZBH;rw[ZLZ];refine ZDk fun x hx hp=>?_;have h:=hl x hx;have hs:=h.s0;have hse:=h.se;rw[ZH9 hl (f:=b.toNat) (g:=x.s.toNat+1) (b:=x.s) (by omega) (by omega) hs]
theorem ZBo {l:List Iv}(hl:∀x∈l,x.Ok){b:Int}(hb:0<=b):0<=ZBH l b:=by
 rw[ZE9 hl hb];exact ZCW
def RowI (P:List Iv):Prop:=P.Pairwise fun a b=>a.e<=b.s
def sumW (P:List Iv):Int:=(P.map Iv.w).sum
def ZFP (l:List Iv)(e:Int):Int:=ZBH l e-ZBH l (e-1)
def ZEB (a b:Iv):Prop:=a.e<=b.s\/b.e<=a.s
instance (a b:Iv):Decidable (ZEB a b):=inferInstanceAs (Decidable (_\/_))
def Disj (P:List Iv):Prop:=P.Pairwise ZEB
theorem ZEB.symm {a b:Iv}(h:ZEB a b):ZEB b a:=Or.symm h
def insI (x:Iv)(l:List Iv):List Iv:=l.takeWhile (fun y=>decide (y.e<=x.s))++x::l.dropWhile (fun y=>decide (y.e<=x.s))
def awayI (x:Iv)(l:List Iv):List Iv:=l.filter fun y=>decide (ZEB x y)
def ZBt (Q:List (Int×Int))(x:Iv):Int:=((Q.filter fun q=>decide (x.s<=q.1/\q.1<=x.e-1)).map Prod.snd).sum
def ZCh (Q:List (Int×Int)):Int:=(Q.map Prod.snd).sum
section
variable {α:Type}(iv:α->Iv)(late:Int)
def ZOv (l:List α):Int:=ZBH (l.map iv) late
def ZCr (x:α)(l:List α):List α:=l.filter fun y=>decide (ZEB (iv x) (iv y))
theorem ZGo (x:α)(l:List α):(ZCr iv x l).length<=l.length:=List.length_filter_le _ _
def choP (W:Int):Nat->List α->Int->List α
 | 0,_,_=>[]
 | _,[],_=>[]
 | f+1,x::l,s=>if W<=s then [] else if s+(iv x).w+ZOv iv late (ZCr iv x l)=W then x::choP W f (ZCr iv x l) (s+(iv x).w) else choP W f l s
def fitA (now:List α)(x:α):Bool:=now.all fun y=>decide (ZEB (iv y) (iv x))
def choR (W:Int):List α->List α->Int->List α
 | [],_,_=>[]
 | x::l,now,s=>if W<=s then [] else if fitA iv now x=false then choR W l now s
  else if s+(iv x).w+ZOv iv late (l.filter (fitA iv (now++[x])))=W then x::choR W l (now++[x]) (s+(iv x).w) else choR W l now s
theorem ZE3 {W:Int}:∀{f g:Nat}{l:List α}{s:Int},l.length<=f->l.length<=g->choP iv late W f l s=choP iv late W g l s
 | 0,0,_,_,_,_=>rfl
 | 0,g+1,l,s,h,_=>by
  have:l=[]:=List.length_eq_zero_iff.1 (by omega);subst this;rfl
 | f+1,0,l,s,_,h=>by
  have:l=[]:=List.length_eq_zero_iff.1 (by omega);subst this;rfl
 | f+1,g+1,[],s,_,_=>rfl
 | f+1,g+1,x::l,s,h1,h2=>by
  have h3:=ZGo iv x l;simp only[List.length_cons] at h1 h2;rw[choP,choP,ZE3 (f:=f) (g:=g) (l:=ZCr iv x l) (by omega) (by omega),ZE3 (f:=f) (g:=g) (l:=l) (by omega) (by omega)]
theorem ZLc {W:Int}:∀{l now:List α}{s:Int},choR iv late W l now s=choP iv late W (l.filter (fitA iv now)).length (l.filter (fitA iv now)) s
 | [],_,_=>rfl
 | x::l,now,s=>by
  have h1:=ZLc (W:=W) (l:=l) (now:=now) (s:=s);have h2:=ZLc (W:=W) (l:=l) (now:=now++[x]) (s:=s+(iv x).w);have hf:l.filter (fitA iv (now++[x]))=ZCr iv x (l.filter (fitA iv now)):=by
   unfold ZCr;rw[List.filter_filter];refine List.filter_congr fun y _=>?_;unfold fitA;rw[List.all_append,Bool.and_comm];simp
  rw[choR]
  by_cases hx:fitA iv now x=true
  ·rw[List.filter_cons,if_pos hx]
   simp only[List.length_cons];rw[choP]
   by_cases hw:W<=s
   ·rw[if_pos hw,if_pos hw]
   ·rw[if_neg hw,if_neg hw,if_neg (by simp[hx]),hf]
    have h3:=ZGo iv x (l.filter (fitA iv now));rw[hf] at h2;rw[h2,h1,ZE3 iv late (f:=(ZCr iv x (l.filter (fitA iv now))).length) (g:=(l.filter (fitA iv now)).length) (Nat.le_refl _) h3]
  ·rw[List.filter_cons,if_neg hx]
   by_cases hw:W<=s
   ·rw[if_pos hw]
    cases hq:l.filter (fitA iv now) with
    | nil=>rfl
    | cons y r=>simp only[List.length_cons];rw[choP,if_pos hw]
   ·rw[if_neg hw,if_pos (by simpa using hx),h1]
end
def endI (l:List Iv)(x:Iv):Int:=x.w+ZBH l x.s
theorem ZQK {l:List Iv}(hl:∀x∈l,x.Ok){D:List Iv}{x:Iv}(hx:x∈l)(hD:∀y∈D,y∈l)(hall:∀y∈l,y.e<=x.s->y∈D):ZBs (fun y:Iv=>y.e<=x.s) (fun y=>endI l y+x.w) x.w D=endI l x:=by
 have hs:=(hl x hx).s0;unfold endI;rw[ZE9 hl hs];refine Int.le_antisymm (ZGY ?_ fun y hy hp=>?_) ?_
 ·have:0<=ZBs (fun y:Iv=>y.e<=x.s) (fun y=>y.w+ZBH l y.s) 0 l:=ZCW
  omega
 ·have:=ZFC (p:=fun y:Iv=>y.e<=x.s) (f:=fun y=>y.w+ZBH l y.s) (n0:=0) (hD y hy) hp
  omega
 ·rcases ZIs (p:=fun y:Iv=>y.e<=x.s) (f:=fun y=>y.w+ZBH l y.s) (l:=l) (n0:=0) with e|⟨y,hy,hp,e⟩
  ·rw[e]
   have:x.w<=ZBs (fun y:Iv=>y.e<=x.s) (fun y=>y.w+ZBH l y.s+x.w) x.w D:=ZCW;omega
  ·rw[e]
   have:=ZFC (p:=fun y:Iv=>y.e<=x.s) (f:=fun y=>y.w+ZBH l y.s+x.w) (n0:=x.w) (hall y hy hp) hp;omega
theorem ZIG {α:Type}{p:α->Prop} [DecidablePred p]{f:α->Int}{n0:Int}{l l':List α}(h:∀x,x∈l ↔ x∈l'):ZBs p f n0 l=ZBs p f n0 l':=by
 refine Int.le_antisymm (ZGY ZCW fun x hx hp=>ZFC ((h x).1 hx) hp) (ZGY ZCW fun x hx hp=>ZFC ((h x).2 hx) hp)
def ZHB (S:List Int)(i:Nat):Bool:=decide (i=0\/S.getD i 0≠S.getD (i-1) 0)
def cmpK (S:List Int)(j:Nat):List Int:=((List.range j).filter (ZHB S)).map fun i=>S.getD i 0
theorem ZDO (S:List Int)(j:Nat):cmpK S (j+1)=if ZHB S j=true then cmpK S j++[S.getD j 0] else cmpK S j:=by
 unfold cmpK;rw[List.range_succ,List.filter_append,List.map_append]
 cases hq:ZHB S j with
 | true=>simp[hq]
 | false=>simp[hq]
theorem ZJG {S:List Int}{j:Nat}(hj:j<=S.length)(h:∀i,i<j->ZHB S i=true):cmpK S j=S.take j:=by
 induction j with
 | zero=>rfl
 | succ j ih =>
  rw[ZDO,if_pos (h j (by omega)),ih (by omega) fun i hi=>h i (by omega),List.take_add_one,List.getElem?_eq_getElem (by omega),List.getD_eq_getElem?_getD,List.getElem?_eq_getElem (by omega)]
  rfl
theorem ZO3 {S:List Int}(hS:S.Pairwise (·<=·)):∀{j:Nat},j<=S.length->(cmpK S j).Pairwise (· < ·)/\∀e∈cmpK S j,∃i,∃hi:i<j,S.getD i 0=e
 | 0,_=>⟨.nil,fun _ h=>nomatch h⟩
 | j+1,hj=>by
  obtain⟨h1,h2⟩:=ZO3 hS (j:=j) (by omega);rw[ZDO]
  split
  ·rename_i hn
   refine⟨List.pairwise_append.2 ⟨h1,by simp,fun a ha b hb=>?_⟩,fun e he=>?_⟩
   ·rw[List.mem_singleton.1 hb]
    obtain⟨i,hi,rfl⟩:=h2 a ha
    rcases of_decide_eq_true hn with e0|hne
    ·omega
    have hp:=List.pairwise_iff_getElem.1 hS;have g:∀x,x<S.length->S.getD x 0=S[x]!:=fun x hx=>by simp[List.getD_eq_getElem?_getD,hx]
    have e1:S.getD (j-1) 0<=S.getD j 0:=by
     rw[List.getD_eq_getElem?_getD,List.getD_eq_getElem?_getD,List.getElem?_eq_getElem (show j-1<S.length by omega),List.getElem?_eq_getElem (show j<S.length by omega)];exact hp (j-1) j (by omega) (by omega) (by omega)
    have e2:S.getD i 0<=S.getD (j-1) 0:=by
     rcases Nat.lt_or_ge i (j-1) with q|q
     ·rw[List.getD_eq_getElem?_getD,List.getD_eq_getElem?_getD,List.getElem?_eq_getElem (show j-1<S.length by omega),List.getElem?_eq_getElem (show i<S.length by omega)]
      exact hp i (j-1) (by omega) (by omega) q
     ·have:i=j-1:=by omega
      rw[this];exact Int.le_refl _
    omega
   ·rcases List.mem_append.1 he with q|q
    ·obtain⟨i,hi,e⟩:=h2 e q
     exact⟨i,by omega,e⟩
    ·exact⟨j,by omega,(List.mem_singleton.1 q).symm⟩
  ·exact⟨h1,fun e he=>by obtain⟨i,hi,q⟩:=h2 e he;exact⟨i,by omega,q⟩⟩
theorem ZJF {S:List Int}:∀{j:Nat},∀i,i<j->S.getD i 0∈cmpK S j
 | 0,i,hi=>absurd hi (by omega)
 | j+1,i,hi=>by
  rw[ZDO]
  rcases Nat.lt_or_ge i j with q|q
  ·have:=ZJF (S:=S) (j:=j) i q
   split
   ·exact List.mem_append_left _ this
   ·exact this
  ·obtain rfl:i=j:=by omega
   split
   ·simp
   ·rename_i hn
    cases i with
    | zero=>exact absurd (decide_eq_true (Or.inl rfl)) hn
    | succ i =>
     have he:S.getD (i+1) 0=S.getD i 0:=by
      apply Classical.byContradiction;intro hc;exact hn (decide_eq_true (Or.inr hc))
     rw[he];exact ZJF (S:=S) (j:=i+1) i (by omega)
def ZEa (l:List Iv)(E:List Int):Prop:=E.Pairwise (· < ·)/\∀e,e∈E ↔ ∃x∈l,x.e=e
theorem ZPo {l:List Iv}{S:List Int}(hp:S.Perm (l.map Iv.e))(hS:S.Pairwise (·<=·)):ZEa l (cmpK S S.length):=by
 obtain⟨h1,h2⟩:=ZO3 hS (Nat.le_refl S.length);refine⟨h1,fun e=>⟨fun he=>?_,fun he=>?_⟩⟩
 ·obtain⟨i,hi,rfl⟩:=h2 e he
  have hm:S.getD i 0∈S:=by
   rw[List.getD_eq_getElem?_getD,List.getElem?_eq_getElem hi];exact List.getElem_mem hi
  obtain⟨x,hx,e⟩:=List.mem_map.1 (hp.subset hm);exact⟨x,hx,e⟩
 ·obtain⟨x,hx,rfl⟩:=he
  have hm:x.e∈S:=hp.symm.subset (List.mem_map_of_mem hx);obtain⟨i,hi,e⟩:=List.getElem_of_mem hm;have:=ZJF (S:=S) (j:=S.length) i hi;rw[List.getD_eq_getElem?_getD,List.getElem?_eq_getElem hi] at this;rw[<-e];exact this
theorem ZOr:∀{E F:List Int},E.Pairwise (· < ·)->F.Pairwise (· < ·)->(∀e,e∈E ↔ e∈F)->E=F
 | [],[],_,_,_=>rfl
 | [],b::F,_,_,h=>absurd ((h b).2 List.mem_cons_self) List.not_mem_nil
 | a::E,[],_,_,h=>absurd ((h a).1 List.mem_cons_self) List.not_mem_nil
 | a::E,b::F,h1,h2,h=>by
  rw[List.pairwise_cons] at h1 h2;have e:a=b:=by
   have q1:=(h a).1 List.mem_cons_self;have q2:=(h b).2 List.mem_cons_self
   rcases List.mem_cons.1 q1 with g|g
   ·exact g
   ·rcases List.mem_cons.1 q2 with g2|g2
    ·exact g2.symm
    ·have:=h1.1 b g2
     have:=h2.1 a g;omega
  subst e
  congr 1
  refine ZOr h1.2 h2.2 fun e=>⟨fun he=>?_,fun he=>?_⟩
  ·have:=h1.1 e he
   rcases List.mem_cons.1 ((h e).1 (List.mem_cons_of_mem _ he)) with g|g
   ·omega
   ·exact g
  ·have:=h2.1 e he
   rcases List.mem_cons.1 ((h e).2 (List.mem_cons_of_mem _ he)) with g|g
   ·omega
   ·exact g
theorem ZEa.same {l:List Iv}{E F:List Int}(h1:ZEa l E)(h2:ZEa l F):E=F:=ZOr h1.1 h2.1 fun e=>(h1.2 e).trans (h2.2 e).symm
def ZBh (l:List Iv)(E:List Int):List (Int×Int):=E.filterMap fun e=>if 0<ZFP l e then some (e-1,ZFP l e) else none
theorem ZG4 {l:List Iv}{E:List Int}{e:Int}:ZBh l (E++[e])=ZBh l E++if 0<ZFP l e then [(e-1,ZFP l e)] else []:=by
 unfold ZBh;rw[List.filterMap_append]
 by_cases h:0<ZFP l e
 ·simp[h]
 ·simp[h]
theorem ZFt {l:List Iv}{E:List Int}:(ZBh l E).length<=E.length:=List.length_filterMap_le _ _
theorem ZLh {l:List Iv}{E:List Int}{k:Nat}(hk:k<E.length):ZBh l (E.take (k+1))=ZBh l (E.take k)++if 0<ZFP l E[k] then [(E[k]-1,ZFP l E[k])] else []:=by
 have:E.take (k+1)=E.take k++[E[k]]:=by rw[List.take_add_one,List.getElem?_eq_getElem hk];rfl
 rw[this,ZG4]
theorem ZHM {α:Type} [DecidableEq α]:∀{l l':List α},l.Nodup->l ⊆ l'->l.length<=l'.length
 | [],_,_,_=>Nat.zero_le _
 | a::l,l',hn,hs=>by
  rw[List.nodup_cons] at hn;have ha:a∈l':=hs List.mem_cons_self;have ih:=ZHM (l':=l'.erase a) hn.2 fun x hx=>(List.mem_erase_of_ne (fun e=>hn.1 (by rw[<-e];exact hx))).2 (hs (List.mem_cons_of_mem _ hx));rw[List.length_erase_of_mem ha] at ih;have:0<l'.length:=List.length_pos_of_mem ha;rw[List.length_cons];omega
theorem ZMX {l:List Iv}{E:List Int}(h:ZEa l E):E.length<=l.length:=by
 have hn:E.Nodup:=h.1.imp fun h=>Int.ne_of_lt h
 have hs:E ⊆ l.map Iv.e:=fun e he=>by
  obtain⟨x,hx,rfl⟩:=(h.2 e).1 he;exact List.mem_map_of_mem hx
 have:=ZHM hn hs;rw[List.length_map] at this;exact this
theorem ZIc {α β:Type}(f:α->β)(iv:β->Iv)(late:Int){W:Int}:∀{n:Nat}{l:List α}{s:Int},choP iv late W n (l.map f) s=(choP (fun x=>iv (f x)) late W n l s).map f
 | 0,_,_=>by rw[choP,choP];rfl
 | n+1,[],_=>rfl
 | n+1,x::l,s=>by
  have h1:ZCr iv (f x) (l.map f)=(ZCr (fun x=>iv (f x)) x l).map f:=by
   unfold ZCr;rw[List.filter_map];rfl
  have h2:∀l:List α,ZOv iv late (l.map f)=ZOv (fun x=>iv (f x)) late l:=fun l=>by unfold ZOv;rw[List.map_map];rfl
  rw[List.map_cons,choP,choP,h1,h2,ZIc f iv late,ZIc f iv late]
  split
  ·rfl
  ·split <;> rfl
theorem ZIZ {α:Type}(iv:α->Iv)(late:Int){W:Int}:∀{n:Nat}{l:List α}{s:Int},(choP iv late W n l s).Sublist l
 | 0,_,_=>by rw[choP];exact List.nil_sublist _
 | n+1,[],_=>List.nil_sublist _
 | n+1,x::l,s=>by
  rw[choP]
  split
  ·exact List.nil_sublist _
  ·split
   ·exact ((ZIZ iv late (n:=n)).trans List.filter_sublist).cons_cons x
   ·exact (ZIZ iv late (n:=n)).cons x
def fnL {β:Type}(n:Nat)(f:Nat->β):List β:=(List.range n).map f
theorem ZEd {β:Type}{n:Nat}{f:Nat->β}:(fnL n f).length=n:=by simp[fnL]
theorem ZL3 {β:Type}{n k:Nat}{f:Nat->β}(hk:k<n):(fnL n f)[k]?=some (f k):=by simp[fnL,hk]
theorem ZOP {β:Type}{n i:Nat}{f:Nat->β}{v:β}:(fnL n f).set i v=fnL n fun k=>if k=i then v else f k:=by
 apply List.ext_getElem?;intro j;rw[List.getElem?_set]
 by_cases hj:j<n
 ·rw[ZL3 hj,ZL3 hj,ZEd]
  by_cases e:i=j
  ·subst e
   rw[if_pos rfl,if_pos hj,if_pos rfl]
  ·rw[if_neg e,if_neg (fun q=>e q.symm)]
 ·rw[List.getElem?_eq_none (by rw[ZEd];omega),List.getElem?_eq_none (by rw[ZEd];omega),ZEd]
  by_cases e:i=j
  ·subst e
   rw[if_pos rfl,if_neg hj]
  ·rw[if_neg e]
theorem ZJz {β:Type}{n:Nat}{f g:Nat->β}(h:∀k,k<n->f k=g k):fnL n f=fnL n g:=by
 unfold fnL;refine List.map_congr_left fun k hk=>h k (List.mem_range.1 hk)
def updB {β:Type}(f:Nat->β)(i:Nat)(v:β):Nat->β:=fun k=>if k=i then v else f k
theorem ZD9 {β:Type}{f:Nat->β}{i:Nat}{v:β}:updB f i v i=v:=by unfold updB;rw[if_pos rfl]
theorem ZDj {β:Type}{f:Nat->β}{i k:Nat}{v:β}(h:k≠i):updB f i v k=f k:=by unfold updB;rw[if_neg h]
def ZBM (dn:Nat->Bool)(N:Nat):List Nat:=(List.range N).filter dn
theorem ZEe {dn:Nat->Bool}{N:Nat}:ZBM dn (N+1)=if dn N=true then ZBM dn N++[N] else ZBM dn N:=by
 unfold ZBM;rw[List.range_succ,List.filter_append];cases h:dn N <;> simp[h]
theorem ZJD {dn:Nat->Bool}{i:Nat}(hd:dn i=false):∀{N:Nat},i<N->(ZBM (updB dn i true) N).length=(ZBM dn N).length+1
 | 0,h=>by omega
 | N+1,h=>by
  rw[ZEe,ZEe]
  by_cases e:i=N
  ·subst e
   have hc:ZBM (updB dn i true) i=ZBM dn i:=by
    unfold ZBM;refine List.filter_congr fun k hk=>?_;exact ZDj (by have:=List.mem_range.1 hk;omega)
   rw[ZD9,if_pos rfl,hd,if_neg (by simp),hc,List.length_append]
   rfl
  ·have ih:=ZJD hd (N:=N) (by omega)
   rw[ZDj (fun q=>e q.symm)]
   split
   ·rw[List.length_append,List.length_append,ih];simp only[List.length_singleton]
   ·exact ih
theorem ZRS {dn:Nat->Bool}{N:Nat}:(ZBM dn N).length<=N:=by
 have:=List.length_filter_le dn (List.range N);rw[List.length_range] at this;exact this
theorem ZRj {dn:Nat->Bool}{N:Nat}(h:(ZBM dn N).length<N):∃a,a<N/\dn a=false:=by
 refine Classical.byContradiction fun hn=>?_;have:ZBM dn N=List.range N:=by
  unfold ZBM;rw[List.filter_eq_self];intro a ha
  cases hq:dn a with
  | true=>rfl
  | false=>exact absurd ⟨a,List.mem_range.1 ha,hq⟩ hn
 rw[this,List.length_range] at h;omega
theorem ZPs {dn:Nat->Bool}{N:Nat}(h:(ZBM dn N).length=N):∀a,a<N->dn a=true:=fun a ha=>by
 cases hq:dn a with
 | true=>rfl
 | false =>
  have h1:=ZJD hq ha;have h2:=ZRS (dn:=updB dn a true) (N:=N);omega
structure ZJu (I:List Iv)(iv:Nat->Iv)(N n:Nat)(dn:Nat->Bool)(en:Nat->Int):Prop where
 cnt:(ZBM dn N).length=n
 ord:∀a b,a<N->b<N->dn a=true->dn b=false->(iv a).e<=(iv b).e
 val:∀a,a<N->dn a=true->en a=endI I (iv a)
theorem ZJu.zero (I:List Iv)(iv:Nat->Iv)(N:Nat)(en:Nat->Int):ZJu I iv N 0 (fun _=>false) en :=
 ⟨by unfold ZBM;simp,fun _ _ _ _ h=>(by cases h),fun _ _ h=>(by cases h)⟩
def accM (I:List Iv)(iv:Nat->Iv)(dn:Nat->Bool)(x:Iv)(k:Nat):Int:=ZBs (fun y:Iv=>y.e<=x.s) (fun y=>endI I y+x.w) x.w ((ZBM dn k).map iv)
theorem ZNr {I:List Iv}{iv:Nat->Iv}{dn:Nat->Bool}{x:Iv}{k:Nat}:accM I iv dn x (k+1)=if dn k=true then (if (iv k).e<=x.s then max (accM I iv dn x k) (endI I (iv k)+x.w) else accM I iv dn x k) else accM I iv dn x k:=by
 unfold accM;rw[ZEe]
 cases dn k with
 | true =>
  rw[if_pos rfl,if_pos rfl,List.map_append];unfold ZBs;rw[List.foldl_append]
  rfl
 | false=>rw[if_neg (by simp),if_neg (by simp)]
theorem ZPf {I:List Iv}{iv:Nat->Iv}{N:Nat}{dn:Nat->Bool}(hI:∀x,x∈I ↔ ∃k,k<N/\iv k=x)(hok:∀x∈I,x.Ok){i:Nat}(hi:i<N)(hmin:∀a,a<N->dn a=false->(iv i).e<=(iv a).e):accM I iv dn (iv i) N=endI I (iv i):=by
 have hx:iv i∈I:=(hI _).2 ⟨i,hi,rfl⟩;refine ZQK hok hx (fun y hy=>?_) fun y hy hye=>?_
 ·obtain⟨k,hk,rfl⟩:=List.mem_map.1 hy
  exact (hI _).2 ⟨k,List.mem_range.1 (List.mem_filter.1 hk).1,rfl⟩
 ·obtain⟨k,hk,rfl⟩:=(hI _).1 hy
  refine List.mem_map_of_mem (List.mem_filter.2 ⟨List.mem_range.2 hk,?_⟩)
  cases hq:dn k with
  | true=>rfl
  | false =>
   have h1:=hmin k hk hq;have h2:=(hok _ hx).se;omega
theorem ZJu.step {I:List Iv}{iv:Nat->Iv}{N n:Nat}{dn:Nat->Bool}{en:Nat->Int}(hM:ZJu I iv N n dn en){i:Nat}(hi:i<N)(hd:dn i=false)(hmin:∀a,a<N->dn a=false->(iv i).e<=(iv a).e):ZJu I iv N (n+1) (updB dn i true) (updB en i (endI I (iv i))):=by
 refine⟨by rw[ZJD hd hi,hM.cnt],fun a b ha hb h1 h2=>?_,fun a ha h1=>?_⟩
 ·have hbi:b≠i:=fun e=>by rw[e,ZD9] at h2;cases h2
  rw[ZDj hbi] at h2
  by_cases e:a=i
  ·rw[e];exact hmin b hb h2
  ·rw[ZDj e] at h1
   exact hM.ord a b ha hb h1 h2
 ·by_cases e:a=i
  ·rw[e,ZD9]
  ·rw[ZDj e] at h1 ⊢
   exact hM.val a ha h1
theorem ZPD {I:List Iv}{iv:Nat->Iv}{N:Nat}{dn:Nat->Bool}{b:Int}{i:Nat}(hi:i<N):ZBs (fun y:Iv=>y.e<=b) (endI I) 0 ((ZBM (updB dn i true) N).map iv)=if (iv i).e<=b then max (ZBs (fun y:Iv=>y.e<=b) (endI I) 0 ((ZBM dn N).map iv)) (endI I (iv i)) else ZBs (fun y:Iv=>y.e<=b) (endI I) 0 ((ZBM dn N).map iv):=by
 have h1:ZBs (fun y:Iv=>y.e<=b) (endI I) 0 ((ZBM (updB dn i true) N).map iv)=ZBs (fun y:Iv=>y.e<=b) (endI I) 0 ((ZBM dn N).map iv++[iv i]):=by
  refine ZIG fun x=>?_;rw[List.mem_append,List.mem_singleton]
  constructor
  ·intro h
   obtain⟨k,hk,rfl⟩:=List.mem_map.1 h;obtain⟨h2,h3⟩:=List.mem_filter.1 hk
   by_cases e:k=i
   ·exact .inr (by rw[e])
   ·rw[ZDj e] at h3
    exact .inl (List.mem_map_of_mem (List.mem_filter.2 ⟨h2,h3⟩))
  ·rintro (h|rfl)
   ·obtain⟨k,hk,rfl⟩:=List.mem_map.1 h
    obtain⟨h2,h3⟩:=List.mem_filter.1 hk;refine List.mem_map_of_mem (List.mem_filter.2 ⟨h2,?_⟩)
    by_cases e:k=i
    ·rw[e,ZD9]
    ·rw[ZDj e];exact h3
   ·exact List.mem_map_of_mem (List.mem_filter.2 ⟨List.mem_range.2 hi,ZD9⟩)
 rw[h1];unfold ZBs;rw[List.foldl_append]
 rfl
theorem ZQG {I:List Iv}{iv:Nat->Iv}{N:Nat}{dn:Nat->Bool}{en:Nat->Int}(hI:∀x,x∈I ↔ ∃k,k<N/\iv k=x)(hok:∀x∈I,x.Ok)(hM:ZJu I iv N N dn en){b:Int}(hb:0<=b):ZBs (fun y:Iv=>y.e<=b) (endI I) 0 ((ZBM dn N).map iv)=ZBH I b:=by
 rw[ZE9 hok hb];have hall:=ZPs hM.cnt;refine ZIG (f:=endI I) fun x=>?_;rw[hI x]
 constructor
 ·intro h
  obtain⟨k,hk,rfl⟩:=List.mem_map.1 h;exact⟨k,List.mem_range.1 (List.mem_filter.1 hk).1,rfl⟩
 ·rintro⟨k,hk,rfl⟩
  exact List.mem_map_of_mem (List.mem_filter.2 ⟨List.mem_range.2 hk,hall k hk⟩)
def ZDP (iv:Nat->Iv)(last:Int)(k:Nat):Int:=(List.range k).foldl (fun nx i=>if last<(iv i).e/\(nx<0\/(iv i).e<nx) then (iv i).e else nx) (-1)
theorem ZHy {iv:Nat->Iv}{last:Int}{k:Nat}:ZDP iv last (k+1)=if last<(iv k).e/\(ZDP iv last k<0\/(iv k).e<ZDP iv last k) then (iv k).e else ZDP iv last k:=by
 unfold ZDP;rw[List.range_succ,List.foldl_append]
 rfl
theorem ZL4 {iv:Nat->Iv}{last:Int}:∀{k:Nat},(∀i,i<k->1<=(iv i).e)->(ZDP iv last k = -1/\∀i,i<k->(iv i).e<=last)\/(last<ZDP iv last k/\1<=ZDP iv last k/\(∃i,i<k/\(iv i).e=ZDP iv last k)/\∀i,i<k->last<(iv i).e->ZDP iv last k<=(iv i).e)
 | 0,_=>.inl ⟨rfl,fun i hi=>absurd hi (by omega)⟩
 | k+1,h=>by
  have hk:=h k (by omega);rw[ZHy]
  rcases ZL4 (iv:=iv) (last:=last) (k:=k) fun i hi=>h i (by omega) with ⟨h1,h2⟩|⟨h1,h2,⟨i0,h3,h4⟩,h5⟩
  ·by_cases c:last<(iv k).e
   ·rw[if_pos ⟨c,.inl (by omega)⟩]
    refine .inr ⟨c,hk,⟨k,by omega,rfl⟩,fun i hi hl=>?_⟩
    rcases Nat.lt_or_ge i k with g|g
    ·have:=h2 i g;omega
    ·have:i=k:=by omega
     rw[this];exact Int.le_refl _
   ·rw[if_neg (fun q=>c q.1)]
    refine .inl ⟨h1,fun i hi=>?_⟩
    rcases Nat.lt_or_ge i k with g|g
    ·exact h2 i g
    ·have:i=k:=by omega
     rw[this];omega
  ·by_cases c:last<(iv k).e/\(ZDP iv last k<0\/(iv k).e<ZDP iv last k)
   ·rw[if_pos c]
    refine .inr ⟨c.1,hk,⟨k,by omega,rfl⟩,fun i hi hl=>?_⟩
    rcases Nat.lt_or_ge i k with g|g
    ·have:=h5 i g hl;omega
    ·have:i=k:=by omega
     rw[this];exact Int.le_refl _
   ·rw[if_neg c]
    refine .inr ⟨h1,h2,⟨i0,by omega,h4⟩,fun i hi hl=>?_⟩
    rcases Nat.lt_or_ge i k with g|g
    ·exact h5 i g hl
    ·have:i=k:=by omega
     subst this;apply Classical.byContradiction;intro q;exact c ⟨hl,.inr (by omega)⟩
structure Cut where
 a:Int
 b:Int
def CutR (_:Heap)(row:List Value)(c:Cut):Prop:=row=[i64 c.a,i64 c.b]
def ZSM:Int->List Cut->Int×Int
 | n,[]=>(n,0)
 | n,c::cs=>if (c.a<0\/n-1<c.a)\/(c.b<0\/n-1<c.b) then (0,7) else if c.b<c.a then (0,2) else ZSM (n-(c.b-c.a+1)) cs
def cutS (n:Int)(l:List Cut):Int×Int:=if n<1\/200000<n then (0,7) else if 30<l.length then (0,3) else ZSM n l
def ZMG:List Cut->Int->Option Int
 | [],i=>some i
 | c::cs,i=>if c.a<=i/\i<=c.b then none else ZMG cs (if c.b<i then i-(c.b-c.a+1) else i)
def ZSO:Int->List Cut->Prop
 | _,[]=>True
 | n,c::cs=>0<=c.a/\c.a<=c.b/\c.b<n/\ZSO (n-(c.b-c.a+1)) cs
def cntC (cs:List Cut)(i:Nat):Nat:=((List.range i).filter fun j:Nat=>(ZMG cs (j:Int)).isSome).length
structure Ttl where
 a:Int
 b:Int
 text:List UInt8
def TtlR (_:Heap)(row:List Value)(x:Ttl):Prop:=row=[i64 x.a,i64 x.b,str x.text]
structure Ttl.Fit (x:Ttl):Prop where
 a:I64 x.a
 b:I64 x.b
 text:Len x.text
def ZSX (s:List UInt8):Bool:=decide (1<=s.length/\s.length<=80) && !decide (s.head?=some 32) && !decide (s.getLast?=some 32) && s.all fun c=>decide (32<=c.toNat/\c.toNat<=126)
def ZMZ:Int->List Ttl->Int
 | _,[]=>0
 | bef,x::xs=>if (x.a<0\/199999<x.a)\/(x.b<0\/199999<x.b) then 7 else if x.b<x.a\/x.a<=bef then 2 else if ZSX x.text=false then 6 else ZMZ x.b xs
def ZFI (l:List Ttl):Int:=if 40<l.length then 3 else ZMZ (-1) l
def leftF (cs:List Cut)(a n:Nat):List Int:=(List.range' a n).filterMap fun j:Nat=>ZMG cs (j:Int)
def ZQ9 (cs:List Cut)(x:Ttl):Option Ttl :=
 if cntC cs x.a.toNat<cntC cs (x.b.toNat+1) then some ⟨(cntC cs x.a.toNat:Nat),(cntC cs (x.b.toNat+1):Nat)-1,x.text⟩ else none
def ZOz (cs:List Cut)(l:List Ttl):List Ttl:=l.filterMap (ZQ9 cs)
def onT (x:Ttl)(i:Int):Bool:=decide (x.a<=i/\i<=x.b)
def saidS (l:List Ttl)(i:Int):List UInt8:=match l.find? fun x=>onT x i with|some x=>x.text|none=>[]
def ZLJ:List Cut->Int->Int
 | [],n=>n
 | c::cs,n=>if c.a<=ZLJ cs n then ZLJ cs n+(c.b-c.a+1) else ZLJ cs n
def ZO4 (speed rate:Int)(x:Ttl):Bool:=decide (rate*(x.b-x.a+1)<(x.text.length:Int)*speed)
def ZPI (l:List Ttl)(speed rate:Int):List Nat:=(List.range l.length).filter fun i=>match l[i]? with|some x=>ZO4 speed rate x|none=>false
end Go.Dw
