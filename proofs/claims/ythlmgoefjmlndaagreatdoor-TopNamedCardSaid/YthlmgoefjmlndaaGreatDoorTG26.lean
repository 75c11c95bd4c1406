/- SA: chapter 11 with no program in sight: a task, what is wrong with it. -/
import Derived.Test.YthlmgoefjmlndaaGreatDoorTG3
set_option linter.unusedVariables false
set_option linter.unusedSimpArgs false
namespace Go.Dw
open Go Go.Dx Go.Proofs
structure Sp where
 lo:Int
 hi:Int
structure ScV where
 name:List UInt8
 land:Int
 proj:Int
 speeds:Sp
 change:Int
 spool:Int
 turn:Int
 digital:Bool
structure ScR where
 work:List UInt8
 version:List UInt8
 land:Int
 days:Sp
structure ScP where
 name:List UInt8
 work:List UInt8
 version:List UInt8
 reels:List Int
 speeds:Sp
 land:Int
structure ScPk where
 name:List UInt8
 work:List UInt8
 version:List UInt8
 frames:Int
 speed:Int
structure ScK where
 pack:Int
 venue:Int
 window:Sp
structure ScL where
 print:Int
 venue:Int
 days:Sp
structure ScT where
 first:Int
 lands:List (List UInt8)
 travel:List (List Int)
 venues:List ScV
 rights:List ScR
 prints:List ScP
 packs:List ScPk
 keys:List ScK
 loans:List ScL
def ZAc (s:List UInt8)(ZAe:List (List UInt8)):Int:=if ZBI s=false then 6 else if s∈ZAe then 5 else 0
def oddS (s:Sp)(lo hi:Int):Int:=if (s.lo<lo\/hi<s.lo)\/(s.hi<lo\/hi<s.hi) then 7 else if s.hi<s.lo then 2 else 0
def ZBR (t:ScT):Int :=
 if t.travel.length≠t.lands.length then 2 else if (t.travel.any fun l=>decide (l.length≠t.lands.length))=true then 2
 else if (t.travel.any fun l=>l.any fun n=>decide (n < -1\/60<n))=true then 7 else 0
def ZFt (t:ScT)(n:Int):Prop:=n<0\/(t.lands.length:Int)-1<n
instance (t:ScT)(n:Int):Decidable (ZFt t n):=inferInstanceAs (Decidable (n<0\/_<n))
def ZBL (t:ScT)(v:ScV):Int :=
 if ZFt t v.land then 4 else if (v.proj<0\/2<v.proj)\/(v.change<0\/60<v.change)\/(v.turn<0\/60<v.turn)\/(v.spool<1\/200000<v.spool) then 7 else oddS v.speeds 1 60
def ZBJ (t:ScT)(r:ScR):Int :=
 if ZBI r.work=false\/(r.version≠[]/\ZBI r.version=false) then 6 else if ZFt t r.land then 4 else oddS r.days 0 80000
def ZAv (t:ScT)(p:ScP):Int :=
 if ZBI p.work=false\/ZBI p.version=false then 6 else if p.reels.length<1\/12<p.reels.length then 3
 else if (p.reels.any fun n=>decide (n<1\/200000<n))=true then 7 else if oddS p.speeds 1 60≠0 then oddS p.speeds 1 60 else if ZFt t p.land then 4 else 0
def ZBU (p:ScPk):Int :=
 if ZBI p.work=false\/ZBI p.version=false then 6 else if (p.frames<1\/2400000<p.frames)\/(p.speed<1\/60<p.speed) then 7 else 0
def ZD9 (t:ScT)(k:ScK):Int :=
 if (k.pack<0\/(t.packs.length:Int)-1<k.pack)\/(k.venue<0\/(t.venues.length:Int)-1<k.venue) then 4 else oddS k.window 0 57600
def ZBZ (t:ScT)(l:ScL):Int :=
 if (l.print<0\/(t.prints.length:Int)-1<l.print)\/(l.venue<0\/(t.venues.length:Int)-1<l.venue) then 4 else oddS l.days 0 80000
def goNm {α:Type}(nm:α->List UInt8)(wrong:α->Int):Nat->List (List UInt8)->List α->Option (Nat×Int)
 | _,_,[]=>none
 | i,b,x::xs=>if ZAc (nm x) b≠0 then some (i,ZAc (nm x) b) else if wrong x≠0 then some (i,wrong x) else goNm nm wrong (i+1) (b++[nm x]) xs
def goEa {α:Type}(wrong:α->Int):Nat->List α->Option (Nat×Int)
 | _,[]=>none
 | i,x::xs=>if wrong x≠0 then some (i,wrong x) else goEa wrong (i+1) xs
def orE (part:Int):Option (Nat×Int)->Int×Int×Int->Int×Int×Int
 | some (i,e),_=>(part,(i:Nat),e)
 | none,x=>x
def ZCE (t:ScT):Int×Int×Int :=
 if t.first<0\/80000<t.first then (1,0,7)
 else if (t.lands.length<1\/8<t.lands.length)\/(t.venues.length<1\/8<t.venues.length)\/30<t.rights.length\/12<t.prints.length\/12<t.packs.length\/30<t.keys.length\/30<t.loans.length then (1,0,3)
 else orE 2 (goNm id (fun _=>0) 0 [] t.lands) (if ZBR t≠0 then (2,0,ZBR t)
 else orE 3 (goNm ScV.name (ZBL t) 0 [] t.venues) (orE 4 (goEa (ZBJ t) 0 t.rights) (orE 5 (goNm ScP.name (ZAv t) 0 [] t.prints) (orE 6 (goNm ScPk.name ZBU 0 [] t.packs)
  (orE 7 (goEa (ZD9 t) 0 t.keys) (orE 8 (goEa (ZBZ t) 0 t.loans) (0,0,0)))))))
def ZEV (t:ScT):Int:=(ZCE t).2.2
def ScVR (_:Heap)(row:List Value)(v:ScV):Prop:=row=[str v.name,i64 v.land,i64 v.proj,i64 v.speeds.lo,i64 v.speeds.hi,i64 v.change,i64 v.spool,i64 v.turn,.bool v.digital]
def ScRR (_:Heap)(row:List Value)(r:ScR):Prop:=row=[str r.work,str r.version,i64 r.land,i64 r.days.lo,i64 r.days.hi]
def ScPR (h:Heap)(row:List Value)(p:ScP):Prop:=∃a c,row=[str p.name,str p.work,str p.version,.slice a p.reels.length c,i64 p.speeds.lo,i64 p.speeds.hi,i64 p.land]/\ZC9 h a p.reels
def ZDC (_:Heap)(row:List Value)(p:ScPk):Prop:=row=[str p.name,str p.work,str p.version,i64 p.frames,i64 p.speed]
def ScKR (_:Heap)(row:List Value)(k:ScK):Prop:=row=[i64 k.pack,i64 k.venue,i64 k.window.lo,i64 k.window.hi]
def ScLR (_:Heap)(row:List Value)(l:ScL):Prop:=row=[i64 l.print,i64 l.venue,i64 l.days.lo,i64 l.days.hi]
def ZCh (h:Heap)(row:List Value)(l:List Int):Prop:=∃a c,row=[.slice a l.length c]/\ZC9 h a l
structure ParL {α:Type}(enc:α->Value)(h:Heap)(a:Option Addr)(l:List α)(cap:Nat):Prop where
 at':ZA3 enc h a l
 le:l.length<=cap
 plain:l≠[]->∃b o,a=some ⟨b,o,none⟩
theorem ParL.ext {α:Type}{enc:α->Value}{h h':Heap}{a:Option Addr}{l:List α}{cap:Nat}(p:ParL enc h a l cap)(he:Ext h h'):ParL enc h' a l cap:=⟨p.at'.ext he,p.le,p.plain⟩
theorem ParL.take {α:Type}{enc:α->Value}{h:Heap}{a:Option Addr}{l:List α}{cap:Nat}(p:ParL enc h a l cap)(k:Nat):ZA3 enc h a (l.take k):=by
 intro i hi;simp only[List.length_take] at hi;obtain⟨b,o,oa,e,hc⟩:=p.at' i (by omega);exact⟨b,o,oa,e,by simpa only[List.getElem_take] using hc⟩
def ZDk (h:Heap)(row:List Value)(t:ScT):Prop:=∃al cl at' ct a1 c1 a2 c2 a3 c3 a4 c4 a5 c5 a6 c6,row=[i64 t.first,.slice al t.lands.length cl,.slice at' t.travel.length ct,.slice a1 t.venues.length c1,.slice a2 t.rights.length c2,.slice a3 t.prints.length c3,.slice a4 t.packs.length c4,.slice a5 t.keys.length c5,.slice a6 t.loans.length c6] ∧
 ParL str h al t.lands cl/\ZAM 1 ZCh h at' t.travel/\ZAM 9 ScVR h a1 t.venues/\ZAM 5 ScRR h a2 t.rights/\ZAM 7 ScPR h a3 t.prints/\ZAM 5 ZDC h a4 t.packs/\ZAM 4 ScKR h a5 t.keys/\ZAM 4 ScLR h a6 t.loans
theorem ScPR.ext {h h':Heap}{row:List Value}{p:ScP}(a:ScPR h row p)(he:Ext h h'):ScPR h' row p:=by
 obtain⟨x,c,e,h1⟩:=a;exact⟨x,c,e,h1.ext he⟩
theorem ZCh.ext {h h':Heap}{row:List Value}{l:List Int}(a:ZCh h row l)(he:Ext h h'):ZCh h' row l:=by
 obtain⟨x,c,e,h1⟩:=a;exact⟨x,c,e,h1.ext he⟩
theorem ZDk.ext {h h':Heap}{row:List Value}{t:ScT}(a:ZDk h row t)(he:Ext h h'):ZDk h' row t:=by
 obtain⟨al,cl,at',ct,a1,c1,a2,c2,a3,c3,a4,c4,a5,c5,a6,c6,e,h1,h2,h3,h4,h5,h6,h7,h8⟩:=a;exact⟨al,cl,at',ct,a1,c1,a2,c2,a3,c3,a4,c4,a5,c5,a6,c6,e,h1.ext he,ZAM.ext (R:=ZCh) (fun x y=>ZCh.ext x y) h2 he,ZAM.ext (R:=ScVR) (fun x _=>x) h3 he,ZAM.ext (R:=ScRR) (fun x _=>x) h4 he,ZAM.ext (R:=ScPR) (fun x y=>ScPR.ext x y) h5 he,ZAM.ext (R:=ZDC) (fun x _=>x) h6 he,ZAM.ext (R:=ScKR) (fun x _=>x) h7 he,ZAM.ext (R:=ScLR) (fun x _=>x) h8 he⟩
structure ScV.Fit (v:ScV):Prop where
 name:Len v.name
 land:I64 v.land
 proj:I64 v.proj
 speeds:I64 v.speeds.lo/\I64 v.speeds.hi
 change:I64 v.change
 spool:I64 v.spool
 turn:I64 v.turn
structure ScR.Fit (r:ScR):Prop where
 work:Len r.work
 version:Len r.version
 land:I64 r.land
 days:I64 r.days.lo/\I64 r.days.hi
structure ScP.Fit (p:ScP):Prop where
 name:Len p.name
 work:Len p.work
 version:Len p.version
 reels:Len p.reels
 reelsI:∀n∈p.reels,I64 n
 speeds:I64 p.speeds.lo/\I64 p.speeds.hi
 land:I64 p.land
structure ScPk.Fit (p:ScPk):Prop where
 name:Len p.name
 work:Len p.work
 version:Len p.version
 frames:I64 p.frames
 speed:I64 p.speed
structure ScK.Fit (k:ScK):Prop where
 pack:I64 k.pack
 venue:I64 k.venue
 window:I64 k.window.lo/\I64 k.window.hi
structure ScL.Fit (l:ScL):Prop where
 print:I64 l.print
 venue:I64 l.venue
 days:I64 l.days.lo/\I64 l.days.hi
structure ScT.Fit (t:ScT):Prop where
 first:I64 t.first
 lands:Len t.lands
 landsL:∀s∈t.lands,Len s
 travel:Len t.travel
 travelL:∀l∈t.travel,Len l/\∀n∈l,I64 n
 venues:Len t.venues
 venuesF:∀v∈t.venues,v.Fit
 rights:Len t.rights
 rightsF:∀r∈t.rights,r.Fit
 prints:Len t.prints
 printsF:∀p∈t.prints,p.Fit
 packs:Len t.packs
 packsF:∀p∈t.packs,p.Fit
 keys:Len t.keys
 keysF:∀k∈t.keys,k.Fit
 loans:Len t.loans
 loansF:∀l∈t.loans,l.Fit
def noV:ScV:=⟨[],0,0,⟨0,0⟩,0,0,0,false⟩
def ZCD (t:ScT)(v:Int):Int:=(t.venues.getD v.toNat noV).land
def trv (t:ScT)(a b:Int):Int:=(t.travel.getD a.toNat []).getD b.toNat 0
def ZQW (t:ScT)(at':Int)(fr:Option Int)(y:ScL):Bool :=
 decide (trv t at' (ZCD t y.venue)<0) || (match fr with|none=>false|some f=>decide (y.days.lo-f<=trv t at' (ZCD t y.venue)))
def goG (t:ScT):Int->Option Int->List ScL->Option Int
 | at',_,[]=>some at'
 | at',fr,y::l=>if ZQW t at' fr y=true then none else goG t (ZCD t y.venue) (some y.days.hi) l
def canG (t:ScT)(home:Int)(l:List ScL):Bool:=match goG t home none l with|none=>false|some at'=>decide (0<=trv t at' home)
def loLe (a b:ScL):Prop:=a.days.lo<=b.days.lo
theorem ZKW {t:ScT}:∀{l:List ScL}{at':Int}{fr:Option Int},l.Pairwise loLe->(∀y∈l,y.days.lo<=y.days.hi)->¬(l.map fun y=>y.days.lo).Nodup->goG t at' fr l=none
 | [],_,_,_,_,h=>absurd List.nodup_nil h
 | [y],_,_,_,_,h=>absurd (by simp) h
 | y::z::l,at',fr,hs,hv,h=>by
  rw[goG]
  split
  ·rfl
  rw[List.pairwise_cons] at hs
  by_cases e:z.days.lo=y.days.lo
  ·rw[goG,if_pos]
   unfold ZQW;have:=hv y List.mem_cons_self
   by_cases n0:trv t (ZCD t y.venue) (ZCD t z.venue)<0
   ·rw[decide_eq_true n0];rfl
   ·simp only[Bool.or_eq_true,decide_eq_true_eq]
    right
    omega
  ·refine ZKW hs.2 (fun x hx=>hv x (List.mem_cons_of_mem _ hx)) fun hn=>h ?_
   rw[List.map_cons,List.nodup_cons];refine⟨fun hm=>?_,hn⟩;obtain⟨x,hx,ex⟩:=List.mem_map.1 hm;have h1:=hs.1 z List.mem_cons_self;unfold loLe at h1
   rcases List.mem_cons.1 hx with rfl|hx
   ·exact e ex
   ·have h2:=(List.pairwise_cons.1 hs.2).1 x hx
    unfold loLe at h2;omega
theorem ZIi {t:ScT}{home:Int}{l:List ScL}(hs:l.Pairwise loLe)(hv:∀y∈l,y.days.lo<=y.days.hi)(h:¬(l.map fun y=>y.days.lo).Nodup):canG t home l=false:=by
 unfold canG;rw[ZKW hs hv h]
theorem ZEz {α:Type}{R:α->α->Prop}(hR:∀a b,R a b->R b a->False):∀{l l':List α},l.Perm l'->l.Pairwise R->l'.Pairwise R->l=l'
 | [],l',hp,_,_=>(List.Perm.nil_eq hp)
 | a::l,l',hp,hs,hs'=>by
  cases l' with
  | nil=>exact absurd hp.length_eq (by simp)
  | cons b l' =>
   rw[List.pairwise_cons] at hs hs';have e:a=b:=by
    rcases List.mem_cons.1 (hp.subset List.mem_cons_self) with e|g
    ·exact e
    ·rcases List.mem_cons.1 (hp.symm.subset List.mem_cons_self) with e|k
     ·exact e.symm
     ·exact (hR _ _ (hs.1 b k) (hs'.1 a g)).elim
   subst e;rw[ZEz hR ((List.perm_cons a).1 hp) hs.2 hs'.2]
theorem ZHN {l:List ScL}(hs:l.Pairwise loLe)(hn:(l.map fun y=>y.days.lo).Nodup):l.Pairwise fun a b=>a.days.lo<b.days.lo:=by
 induction l with
 | nil=>exact .nil
 | cons a l ih =>
  rw[List.pairwise_cons] at hs ⊢;rw[List.map_cons,List.nodup_cons] at hn;refine⟨fun b hb=>?_,ih hs.2 hn.2⟩;have h1:=hs.1 b hb;unfold loLe at h1;have:a.days.lo≠b.days.lo:=fun e=>hn.1 (List.mem_map.2 ⟨b,hb,e.symm⟩);omega
theorem ZPi {t:ScT}{home:Int}{l l':List ScL}(hp:l.Perm l')(hs:l.Pairwise loLe)(hs':l'.Pairwise loLe)(hv:∀y∈l,y.days.lo<=y.days.hi):canG t home l=canG t home l':=by
 by_cases hn:(l.map fun y=>y.days.lo).Nodup
 ·have hn':(l'.map fun y=>y.days.lo).Nodup:=(hp.map _).nodup_iff.1 hn
  rw[ZEz (R:=fun a b:ScL=>a.days.lo<b.days.lo) (fun a b h1 h2=>by omega) hp (ZHN hs hn) (ZHN hs' hn')]
 ·have hn':¬(l'.map fun y=>y.days.lo).Nodup:=fun h=>hn ((hp.map _).nodup_iff.2 h)
  rw[ZIi hs hv hn,ZIi hs' (fun y hy=>hv y (hp.symm.subset hy)) hn']
def insG (g:ScL)(l:List ScL):List ScL:=l.takeWhile (fun y=>decide (y.days.lo<g.days.lo))++g::l.dropWhile (fun y=>decide (y.days.lo<g.days.lo))
theorem ZLR (g:ScL)(l:List ScL):(insG g l).Perm (g::l):=by
 unfold insG;have h:=List.takeWhile_append_dropWhile (p:=fun y:ScL=>decide (y.days.lo<g.days.lo)) (l:=l);refine List.perm_middle.trans ?_;rw[h]
theorem ZIL {g:ScL}:∀{l:List ScL},l.Pairwise loLe->(insG g l).Pairwise loLe
 | [],_=>by unfold insG;simp
 | a::l,hs=>by
  rw[List.pairwise_cons] at hs
  by_cases c:a.days.lo<g.days.lo
  ·have e:insG g (a::l)=a::insG g l:=by unfold insG;rw[List.takeWhile_cons_of_pos (by simpa using c),List.dropWhile_cons_of_pos (by simpa using c)];rfl
   rw[e,List.pairwise_cons];refine⟨fun b hb=>?_,ZIL hs.2⟩
   rcases List.mem_cons.1 ((ZLR g l).subset hb) with rfl|hb
   ·exact Int.le_of_lt c
   ·exact hs.1 b hb
  ·have e:insG g (a::l)=g::a::l:=by unfold insG;rw[List.takeWhile_cons_of_neg (by simpa using c),List.dropWhile_cons_of_neg (by simpa using c)];rfl
   rw[e,List.pairwise_cons,List.pairwise_cons];refine⟨fun b hb=>?_,hs⟩
   rcases List.mem_cons.1 hb with rfl|hb
   ·unfold loLe;omega
   ·have:=hs.1 b hb
    unfold loLe at this ⊢;omega
def ofG (granted:List ScL)(x:ScL):List ScL:=granted.foldl (fun l g=>if g.print=x.print then insG g l else l) [x]
theorem ZPG {granted:List ScL}{x:ScL}:(ofG granted x).Pairwise loLe:=by
 unfold ofG;have:∀(l:List ScL),l.Pairwise loLe->(granted.foldl (fun l g=>if g.print=x.print then insG g l else l) l).Pairwise loLe:=by
  induction granted with
  | nil=>exact fun _ h=>h
  | cons g gs ih =>
   intro l hl;rw[List.foldl_cons];refine ih _ ?_
   split
   ·exact ZIL hl
   ·exact hl
 exact this _ (by simp)
theorem ZNi {granted:List ScL}{x:ScL}:(ofG granted x).Perm (x::granted.filter fun g=>decide (g.print=x.print)):=by
 unfold ofG;have:∀(l:List ScL),(granted.foldl (fun l g=>if g.print=x.print then insG g l else l) l).Perm (l++granted.filter fun g=>decide (g.print=x.print)):=by
  induction granted with
  | nil=>exact fun l=>by simp
  | cons g gs ih =>
   intro l;rw[List.foldl_cons,List.filter_cons]
   by_cases c:g.print=x.print
   ·rw[if_pos c,if_pos (by simpa using c)]
    refine (ih _).trans ?_;refine ((ZLR g l).append_right _).trans ?_;rw[List.cons_append];exact List.perm_middle.symm
   ·rw[if_neg c,if_neg (by simpa using c)]
    exact ih _
 exact this [x]
def noP:ScP:=⟨[],[],[],[],⟨0,0⟩,0⟩
def ZG1 (t:ScT)(p:Int):Int:=(t.prints.getD p.toNat noP).land
def ZFg (t:ScT)(granted:List ScL)(x:ScL):Bool:=canG t (ZG1 t x.print) (ofG granted x)
def ZBq (t:ScT):List ScL×List Int:=t.loans.foldl (fun s x=>if ZFg t s.1 x=true then (s.1++[x],s.2++[0]) else (s.1,s.2++[210])) ([],[])
structure ScS where
 venue:Int
 print:Int
 pack:Int
 minute:Int
 speed:Int
 worth:Int
def ScSR (_:Heap)(row:List Value)(s:ScS):Prop:=row=[i64 s.venue,i64 s.print,i64 s.pack,i64 s.minute,i64 s.speed,i64 s.worth]
structure ScS.Fit (s:ScS):Prop where
 venue:I64 s.venue
 print:I64 s.print
 pack:I64 s.pack
 minute:I64 s.minute
 speed:I64 s.speed
 worth:I64 s.worth
def noPk:ScPk:=⟨[],[],[],0,0⟩
def ZA1 (t:ScT)(s:ScS):ScV:=t.venues.getD s.venue.toNat noV
def prAt (t:ScT)(s:ScS):ScP:=t.prints.getD s.print.toNat noP
def pkAt (t:ScT)(s:ScS):ScPk:=t.packs.getD s.pack.toNat noPk
def ZAY (t:ScT)(s:ScS):Int :=
 if s.venue<0\/(t.venues.length:Int)-1<s.venue then 4 else if (s.print = -1 ↔ s.pack = -1) then 2
 else if (s.print ≠ -1/\(s.print<0\/(t.prints.length:Int)-1<s.print))\/(s.pack ≠ -1/\(s.pack<0\/(t.packs.length:Int)-1<s.pack)) then 4
 else if (s.minute<0\/57600<s.minute)\/(s.speed<1\/60<s.speed)\/(s.worth<0\/1000000<s.worth) then 7 else 0
def upS (a b:Int):Int:=(a+b-1) / b
theorem ZHz {a b:Int}(hb:1<=b):upS a b=(a-1) / b+1:=by
 unfold upS;rw[show a+b-1=(a-1)+1*b by omega,Int.add_mul_ediv_right _ _ (by omega)]
theorem ZJW {a b:Int}(ha:1<=a)(hb:1<=b):1<=upS a b:=by
 rw[ZHz hb];have:=Int.ediv_nonneg (show 0<=a-1 by omega) (show 0<=b by omega);omega
theorem ZTo {a b:Int}(ha:1<=a)(hb:1<=b):upS a b<=a:=by
 rw[ZHz hb];have:=Int.ediv_le_self b (show 0<=a-1 by omega);omega
theorem ZVu {a b:Int}(hb:1<=b):upS (upS a b) 60=upS a (60*b):=by
 rw[ZHz (show (1:Int)<=60 by decide),ZHz hb,ZHz (show 1<=60*b by omega),show (a-1) / b+1-1=(a-1) / b by omega,Int.ediv_ediv_of_nonneg (by omega),Int.mul_comm]
def ZEF (l:List Int)(speed:Int):Int:=(l.map fun n=>upS n speed).sum
def ZFw (t:ScT)(s:ScS):Int :=
 if 0<=s.pack then upS (upS (pkAt t s).frames s.speed) 60
 else if (ZA1 t s).proj<2 then upS (ZEF (prAt t s).reels s.speed) 60+(ZA1 t s).change*(((prAt t s).reels.length:Int)-1) else upS (ZEF (prAt t s).reels s.speed) 60
def inSp (s all:Sp):Prop:=all.lo<=s.lo/\s.hi<=all.hi
instance (s all:Sp):Decidable (inSp s all):=inferInstanceAs (Decidable (_/\_))
def endS (t:ScT)(s:ScS):Int:=s.minute+ZFw t s
def ZDH (t:ScT)(s:ScS):Sp:=⟨t.first+s.minute / 1440,t.first+(endS t s-1) / 1440⟩
def ZBi (t:ScT)(s:ScS):List UInt8:=if 0<=s.print then (prAt t s).work else (pkAt t s).work
def ZEu (t:ScT)(s:ScS):List UInt8:=if 0<=s.print then (prAt t s).version else (pkAt t s).version
def ZB8 (t:ScT)(s:ScS):Bool:=t.rights.any fun r=>decide (r.work=ZBi t s/\(r.version=[]\/r.version=ZEu t s)/\r.land=(ZA1 t s).land/\inSp (ZDH t s) r.days)
def ZUQ (t:ScT)(s:ScS):Bool:=(ZBq t).1.any fun l=>decide (l.print=s.print/\l.venue=s.venue/\inSp (ZDH t s) l.days)
def ZFF (t:ScT)(s:ScS):Int :=
 if ZUQ t s=false then 212 else if (ZA1 t s).proj=0\/¬((ZA1 t s).speeds.lo<=s.speed/\s.speed<=(ZA1 t s).speeds.hi)\/¬((prAt t s).speeds.lo<=s.speed/\s.speed<=(prAt t s).speeds.hi) then 215
 else if ((prAt t s).reels.any fun n=>decide ((ZA1 t s).spool<n))=true then 216 else 0
def keyB (t:ScT)(s:ScS):Bool:=t.keys.any fun k=>decide (k.pack=s.pack/\k.venue=s.venue/\inSp ⟨s.minute,endS t s⟩ k.window)
def ZGP (t:ScT)(s:ScS):Int :=
 if (ZA1 t s).digital=false then 213 else if keyB t s=false then 214 else if s.speed≠(pkAt t s).speed then 215 else 0
def whyS (t:ScT)(s:ScS):Int:=if ZB8 t s=false then 211 else if 0<=s.print then ZFF t s else ZGP t s
theorem ZU0 {α:Type}{p:List α->Prop}(h0:p [])(h1:∀l x,p l->p (l++[x]))(l:List α):p l:=by
 have:∀r:List α,p r.reverse:=fun r=>by
  induction r with
  | nil=>exact h0
  | cons x r ih=>rw[List.reverse_cons];exact h1 _ x ih
 have h:=this l.reverse
 rwa [List.reverse_reverse] at h
theorem ZFp {α:Type}{nm:α->List UInt8}{wrong:α->Int}:∀{l:List α}{i:Nat}{b:List (List UInt8)}{x:Nat×Int},goNm nm wrong i b l=some x->x.2≠0
 | [],_,_,_,h=>nomatch h
 | a::l,i,b,x,h=>by
  rw[goNm] at h
  split at h
  ·rename_i h1;cases h;exact h1
  ·split at h
   ·rename_i h1;cases h;exact h1
   ·exact ZFp h
theorem ZF6 {α:Type}{nm:α->List UInt8}{wrong:α->Int}:∀{l:List α}{i:Nat}{b:List (List UInt8)},goNm nm wrong i b l=none->∀x∈l,wrong x=0
 | [],_,_,_,_,hx=>nomatch hx
 | a::l,i,b,h,x,hx=>by
  rw[goNm] at h
  split at h
  ·cases h
  ·split at h
   ·cases h
   ·rename_i h1
    rcases List.mem_cons.1 hx with rfl|g
    ·exact Classical.not_not.1 h1
    ·exact ZF6 h x g
theorem ZHj {α:Type}{wrong:α->Int}:∀{l:List α}{i:Nat}{x:Nat×Int},goEa wrong i l=some x->x.2≠0
 | [],_,_,h=>nomatch h
 | a::l,i,x,h=>by
  rw[goEa] at h
  split at h
  ·rename_i h1;cases h;exact h1
  ·exact ZHj h
theorem ZFo {α:Type}{wrong:α->Int}:∀{l:List α}{i:Nat},goEa wrong i l=none->∀x∈l,wrong x=0
 | [],_,_,_,hx=>nomatch hx
 | a::l,i,h,x,hx=>by
  rw[goEa] at h
  split at h
  ·cases h
  ·rename_i h1
   rcases List.mem_cons.1 hx with rfl|g
   ·exact Classical.not_not.1 h1
   ·exact ZFo h x g
theorem ZBd {part:Int}{o:Option (Nat×Int)}{x:Int×Int×Int}(ho:∀y,o=some y->y.2≠0)(h:(orE part o x).2.2=0):o=none/\x.2.2=0:=by
 cases o with
 | none=>exact⟨rfl,h⟩
 | some y=>exact absurd h (ho y rfl)
structure ScOk (t:ScT):Prop where
 first:0<=t.first/\t.first<=80000
 lands:1<=t.lands.length/\t.lands.length<=8
 venues1:1<=t.venues.length/\t.venues.length<=8
 rights1:t.rights.length<=30
 prints1:t.prints.length<=12
 packs1:t.packs.length<=12
 keys1:t.keys.length<=30
 loans1:t.loans.length<=30
 travel:ZBR t=0
 venues:∀v∈t.venues,ZBL t v=0
 rights:∀r∈t.rights,ZBJ t r=0
 prints:∀p∈t.prints,ZAv t p=0
 packs:∀p∈t.packs,ZBU p=0
 keys:∀k∈t.keys,ZD9 t k=0
 loans:∀l∈t.loans,ZBZ t l=0
theorem ZSy {t:ScT}(h:ZEV t=0):ScOk t:=by
 unfold ZEV ZCE at h
 split at h
 ·cases h
 rename_i h1
 split at h
 ·cases h
 rename_i h2;obtain⟨_,h⟩:=ZBd (fun _=>ZFp) h
 split at h
 ·rename_i h3;exact absurd h h3
 rename_i h3;obtain⟨a3,h⟩:=ZBd (fun _=>ZFp) h;obtain⟨a4,h⟩:=ZBd (fun _=>ZHj) h;obtain⟨a5,h⟩:=ZBd (fun _=>ZFp) h;obtain⟨a6,h⟩:=ZBd (fun _=>ZFp) h;obtain⟨a7,h⟩:=ZBd (fun _=>ZHj) h;obtain⟨a8,h⟩:=ZBd (fun _=>ZHj) h;exact⟨by omega,by omega,by omega,by omega,by omega,by omega,by omega,by omega,Classical.not_not.1 h3,ZF6 a3,ZFo a4,ZF6 a5,ZF6 a6,ZFo a7,ZFo a8⟩
theorem ZJl {t:ScT}{v:ScV}(h:ZBL t v=0):(0<=v.land/\v.land<t.lands.length)/\(0<=v.proj/\v.proj<=2)/\(0<=v.change/\v.change<=60)/\(0<=v.turn/\v.turn<=60)/\(1<=v.spool/\v.spool<=200000)/\oddS v.speeds 1 60=0:=by
 unfold ZBL at h
 split at h
 ·cases h
 rename_i ha;unfold ZFt at ha
 split at h
 ·cases h
 exact⟨by omega,by omega,by omega,by omega,by omega,h⟩
theorem ZJ5 {t:ScT}{p:ScP}(h:ZAv t p=0):(1<=p.reels.length/\p.reels.length<=12)/\(∀n∈p.reels,1<=n/\n<=200000)/\oddS p.speeds 1 60=0/\(0<=p.land/\p.land<t.lands.length):=by
 unfold ZAv at h
 split at h
 ·cases h
 split at h
 ·cases h
 split at h
 ·cases h
 rename_i h3
 split at h
 ·rename_i h4;exact absurd h h4
 rename_i h4
 split at h
 ·cases h
 rename_i ha;unfold ZFt at ha;refine⟨by omega,fun n hn=>?_,Classical.not_not.1 h4,by omega⟩;have h5:(p.reels.any fun n=>decide (n<1\/200000<n))=false:=by
  cases hq:p.reels.any fun n=>decide (n<1\/200000<n)
  ·rfl
  ·exact absurd hq h3
 rw[List.any_eq_false] at h5;have:=h5 n hn;simp only[decide_eq_true_eq] at this;omega
theorem ZQN {p:ScPk}(h:ZBU p=0):(1<=p.frames/\p.frames<=2400000)/\(1<=p.speed/\p.speed<=60):=by
 unfold ZBU at h
 split at h
 ·cases h
 split at h
 ·cases h
 omega
theorem ZCT {t:ScT}{s:ScS}(h:ZAY t s=0):(0<=s.venue/\s.venue<t.venues.length)/\((0<=s.print/\s.print<t.prints.length/\s.pack = -1)\/(0<=s.pack/\s.pack<t.packs.length/\s.print = -1))/\(0<=s.minute/\s.minute<=57600)/\(1<=s.speed/\s.speed<=60)/\(0<=s.worth/\s.worth<=1000000):=by
 unfold ZAY at h
 split at h
 ·cases h
 split at h
 ·cases h
 rename_i h2
 split at h
 ·cases h
 split at h
 ·cases h
 refine⟨by omega,?_,by omega,by omega,by omega⟩
 by_cases c:s.print = -1
 ·by_cases d:s.pack = -1
  ·exact absurd ⟨fun _=>d,fun _=>c⟩ h2
  ·exact .inr ⟨by omega,by omega,c⟩
 ·by_cases d:s.pack = -1
  ·exact .inl ⟨by omega,by omega,d⟩
  ·exact absurd ⟨fun e=>absurd e c,fun e=>absurd e d⟩ h2
theorem ZFS {α:Type}{l:List α}{n:Int}{d:α}(h0:0<=n)(h1:n<l.length):l.getD n.toNat d∈l:=by
 have h:n.toNat<l.length:=by omega
 rw[List.getD_eq_getElem?_getD,List.getElem?_eq_getElem h];exact List.getElem_mem h
theorem ZQV {t:ScT}(hO:ScOk t){s:ScS}(h:ZAY t s=0):ZBL t (ZA1 t s)=0:=hO.venues _ (ZFS (ZCT h).1.1 (ZCT h).1.2)
theorem ZUH {t:ScT}(hO:ScOk t){s:ScS}(h:ZAY t s=0)(hp:s.pack = -1):ZAv t (prAt t s)=0:=by
 rcases (ZCT h).2.1 with ⟨h1,h2,_⟩|⟨h1,_,_⟩
 ·exact hO.prints _ (ZFS h1 h2)
 ·omega
theorem ZVO {t:ScT}(hO:ScOk t){s:ScS}(h:ZAY t s=0)(hp:0<=s.pack):ZBU (pkAt t s)=0:=by
 rcases (ZCT h).2.1 with ⟨_,_,h1⟩|⟨h1,h2,_⟩
 ·omega
 ·exact hO.packs _ (ZFS h1 h2)
theorem ZJE {l:List Int}{speed:Int}(hs:1<=speed)(hl:∀n∈l,1<=n/\n<=200000):(l.length:Int)<=ZEF l speed/\ZEF l speed<=200000*l.length:=by
 unfold ZEF
 induction l with
 | nil=>exact⟨Int.le_refl _,Int.le_refl _⟩
 | cons a l ih =>
  have h1:=ih fun n hn=>hl n (List.mem_cons_of_mem _ hn);have h2:=hl a List.mem_cons_self;have h3:=ZJW h2.1 hs;have h4:=ZTo h2.1 hs;simp only[List.map_cons,List.sum_cons,List.length_cons];omega
theorem ZNQ {t:ScT}(hO:ScOk t){s:ScS}(h:ZAY t s=0):1<=ZFw t s/\ZFw t s<=100000:=by
 obtain⟨_,hpp,_,hsp,_⟩:=ZCT h;obtain⟨_,_,hch,_⟩:=ZJl (ZQV hO h);unfold ZFw
 split
 ·rename_i hp
  obtain⟨h1,_⟩:=ZQN (ZVO hO h hp);have h2:=ZJW h1.1 hsp.1;have h3:=ZTo h1.1 hsp.1;have h4:=ZJW h2 (show (1:Int)<=60 by decide);refine⟨h4,?_⟩;rw[ZHz (by decide)];omega
 ·rename_i hp
  have hp':s.pack = -1:=by omega
  obtain⟨h1,h2,_⟩:=ZJ5 (ZUH hO h hp');have h3:=ZJE hsp.1 h2;have h4:=ZJW (show 1<=ZEF (prAt t s).reels s.speed by omega) (show (1:Int)<=60 by decide);have h5:upS (ZEF (prAt t s).reels s.speed) 60<=40000:=by rw[ZHz (by decide)];omega
  have h6:0<=(ZA1 t s).change*(((prAt t s).reels.length:Int)-1):=Int.mul_nonneg hch.1 (by omega);have h7:(ZA1 t s).change*(((prAt t s).reels.length:Int)-1)<=60*11:=Int.mul_le_mul hch.2 (by omega) (by omega) (by decide)
  split <;> omega
def ScR.nm (c:List UInt8->List UInt8)(r:ScR):ScR:=⟨c r.work,r.version,r.land,r.days⟩
def ScP.nm (c:List UInt8->List UInt8)(p:ScP):ScP:=⟨p.name,c p.work,p.version,p.reels,p.speeds,p.land⟩
def ScPk.nm (c:List UInt8->List UInt8)(p:ScPk):ScPk:=⟨p.name,c p.work,p.version,p.frames,p.speed⟩
def ScT.nm (c:List UInt8->List UInt8)(t:ScT):ScT:=⟨t.first,t.lands,t.travel,t.venues,t.rights.map (ScR.nm c),t.prints.map (ScP.nm c),t.packs.map (ScPk.nm c),t.keys,t.loans⟩
theorem ZJO {α:Type}{nm:α->List UInt8}{w w':α->Int}{f:α->α}(hf:∀x,nm (f x)=nm x)(hw:∀x,w x=0->w' (f x)=0):∀{l:List α}{i:Nat}{b:List (List UInt8)},goNm nm w i b l=none->goNm nm w' i b (l.map f)=none
 | [],_,_,_=>rfl
 | a::l,i,b,h=>by
  rw[goNm] at h;rw[List.map_cons,goNm,hf]
  split at h
  ·cases h
  ·rename_i h1
   split at h
   ·cases h
   ·rename_i h2
    rw[if_neg h1,if_neg (fun q=>q (hw a (Classical.not_not.1 h2)))];exact ZJO hf hw h
theorem ZN5 {α:Type}{w w':α->Int}{f:α->α}(hw:∀x,w x=0->w' (f x)=0):∀{l:List α}{i:Nat},goEa w i l=none->goEa w' i (l.map f)=none
 | [],_,_=>rfl
 | a::l,i,h=>by
  rw[goEa] at h;rw[List.map_cons,goEa]
  split at h
  ·cases h
  ·rename_i h2
   rw[if_neg (fun q=>q (hw a (Classical.not_not.1 h2)))];exact ZN5 hw h
variable {c:List UInt8->List UInt8}(hc:∀x,ZBI x=true->ZBI (c x)=true)
include hc
theorem ZL3 {t:ScT}(r:ScR)(h:ZBJ t r=0):ZBJ (t.nm c) (r.nm c)=0:=by
 unfold ZBJ at h ⊢
 split at h
 ·cases h
 rename_i h1;have h2:ZBI r.work=true:=by
  cases hq:ZBI r.work
  ·exact absurd (.inl hq) h1
  ·rfl
 have e1:ZBI (r.nm c).work=true:=hc _ h2;rw[if_neg]
 ·exact h
 ·rintro (q|q)
  ·rw[e1] at q;cases q
  ·exact h1 (.inr q)
theorem ZM4 {t:ScT}(p:ScP)(h:ZAv t p=0):ZAv (t.nm c) (p.nm c)=0:=by
 unfold ZAv at h ⊢
 split at h
 ·cases h
 rename_i h1;have h2:ZBI p.work=true:=by
  cases hq:ZBI p.work
  ·exact absurd (.inl hq) h1
  ·rfl
 have e1:ZBI (p.nm c).work=true:=hc _ h2;rw[if_neg]
 ·exact h
 ·rintro (q|q)
  ·rw[e1] at q;cases q
  ·exact h1 (.inr q)
theorem ZOL (p:ScPk)(h:ZBU p=0):ZBU (p.nm c)=0:=by
 unfold ZBU at h ⊢
 split at h
 ·cases h
 rename_i h1;have h2:ZBI p.work=true:=by
  cases hq:ZBI p.work
  ·exact absurd (.inl hq) h1
  ·rfl
 have e1:ZBI (p.nm c).work=true:=hc _ h2;rw[if_neg]
 ·exact h
 ·rintro (q|q)
  ·rw[e1] at q;cases q
  ·exact h1 (.inr q)
theorem ZTR {t:ScT}(h:ZEV t=0):ZEV (t.nm c)=0:=by
 unfold ZEV ZCE at h ⊢
 split at h
 ·cases h
 rename_i h1
 split at h
 ·cases h
 rename_i h2;obtain⟨a2,h⟩:=ZBd (fun _=>ZFp) h
 split at h
 ·rename_i h3;exact absurd h h3
 rename_i h3;obtain⟨a3,h⟩:=ZBd (fun _=>ZFp) h;obtain⟨a4,h⟩:=ZBd (fun _=>ZHj) h;obtain⟨a5,h⟩:=ZBd (fun _=>ZFp) h;obtain⟨a6,h⟩:=ZBd (fun _=>ZFp) h;obtain⟨a7,h⟩:=ZBd (fun _=>ZHj) h;obtain⟨a8,h⟩:=ZBd (fun _=>ZHj) h;have b4:goEa (ZBJ (t.nm c)) 0 (t.nm c).rights=none:=ZN5 (fun r hr=>ZL3 hc r hr) a4;have b5:goNm ScP.name (ZAv (t.nm c)) 0 [] (t.nm c).prints=none:=ZJO (f:=ScP.nm c) (w':=ZAv (t.nm c)) (fun _=>rfl) (fun p hp=>ZM4 hc p hp) a5;have b6:goNm ScPk.name ZBU 0 [] (t.nm c).packs=none:=ZJO (f:=ScPk.nm c) (w':=ZBU) (fun _=>rfl) (fun p hp=>ZOL hc p hp) a6;have b7:goEa (ZD9 (t.nm c)) 0 (t.nm c).keys=none:=by
  have e:ZD9 (t.nm c)=ZD9 t:=by
   funext k
   unfold ZD9 ScT.nm;simp only[List.length_map]
  rw[e];exact a7
 have b8:goEa (ZBZ (t.nm c)) 0 (t.nm c).loans=none:=by
  have e:ZBZ (t.nm c)=ZBZ t:=by
   funext k
   unfold ZBZ ScT.nm;simp only[List.length_map]
  rw[e];exact a8
 have b2:goNm id (fun _=>0) 0 [] (t.nm c).lands=none:=a2;have b3:goNm ScV.name (ZBL (t.nm c)) 0 [] (t.nm c).venues=none:=a3;have b0:ZBR (t.nm c)=ZBR t:=rfl;have q1:¬((t.nm c).first<0\/80000<(t.nm c).first):=h1;have q2:¬(((t.nm c).lands.length<1\/8<(t.nm c).lands.length)\/((t.nm c).venues.length<1\/8<(t.nm c).venues.length)\/30<(t.nm c).rights.length\/12<(t.nm c).prints.length\/12<(t.nm c).packs.length\/30<(t.nm c).keys.length\/30<(t.nm c).loans.length):=by
  unfold ScT.nm;simp only[List.length_map];exact h2
 rw[if_neg q1,if_neg q2,b2,b3,b4,b5,b6,b7,b8,b0,if_neg h3]
 rfl
omit hc
theorem ZRv (t:ScT)(s:ScS):ZAY (t.nm c) s=ZAY t s:=by
 unfold ZAY ScT.nm;simp only[List.length_map]
theorem ZJZ {α:Type}(l:List α)(f:α->α)(i:Nat)(d:α):(l.map f).getD i d=f (l.getD i d)\/((l.map f).getD i d=d/\l.getD i d=d):=by
 rw[List.getD_eq_getElem?_getD,List.getD_eq_getElem?_getD,List.getElem?_map]
 cases l[i]? with
 | none=>exact .inr ⟨rfl,rfl⟩
 | some x=>exact .inl rfl
theorem ZUh (t:ScT)(s:ScS):(prAt (t.nm c) s).reels=(prAt t s).reels/\(prAt (t.nm c) s).speeds=(prAt t s).speeds/\(prAt (t.nm c) s).version=(prAt t s).version:=by
 rcases ZJZ t.prints (ScP.nm c) s.print.toNat noP with e|⟨e1,e2⟩
 ·have e':prAt (t.nm c) s=(prAt t s).nm c:=e
  rw[e'];exact⟨rfl,rfl,rfl⟩
 ·have e1':prAt (t.nm c) s=noP:=e1
  have e2':prAt t s=noP:=e2;rw[e1',e2'];exact⟨rfl,rfl,rfl⟩
theorem ZU8 (t:ScT)(s:ScS):(pkAt (t.nm c) s).frames=(pkAt t s).frames/\(pkAt (t.nm c) s).speed=(pkAt t s).speed/\(pkAt (t.nm c) s).version=(pkAt t s).version:=by
 rcases ZJZ t.packs (ScPk.nm c) s.pack.toNat noPk with e|⟨e1,e2⟩
 ·have e':pkAt (t.nm c) s=(pkAt t s).nm c:=e
  rw[e'];exact⟨rfl,rfl,rfl⟩
 ·have e1':pkAt (t.nm c) s=noPk:=e1
  have e2':pkAt t s=noPk:=e2;rw[e1',e2'];exact⟨rfl,rfl,rfl⟩
theorem ZTj (t:ScT)(s:ScS):ZA1 (t.nm c) s=ZA1 t s:=rfl
theorem ZTv (t:ScT):∀(l:List ScL)(a:Int)(f:Option Int),goG (t.nm c) a f l=goG t a f l
 | [],_,_=>rfl
 | y::l,a,f=>by
  rw[goG,goG,ZTv t l]
  rfl
theorem ZUJ (t:ScT)(p:Int):ZG1 (t.nm c) p=ZG1 t p:=by
 rcases ZJZ t.prints (ScP.nm c) p.toNat noP with e|⟨e1,e2⟩
 ·show ((t.prints.map (ScP.nm c)).getD p.toNat noP).land=_
  rw[e];rfl
 ·show ((t.prints.map (ScP.nm c)).getD p.toNat noP).land=(t.prints.getD p.toNat noP).land
  rw[e1,e2]
theorem ZSt (t:ScT):ZFg (t.nm c)=ZFg t:=by
 funext g x
 unfold ZFg canG;rw[ZTv,ZUJ]
 rfl
theorem ZSQ (t:ScT):ZBq (t.nm c)=ZBq t:=by
 unfold ZBq;rw[ZSt]
 rfl
theorem ZUX (t:ScT)(s:ScS):ZFw (t.nm c) s=ZFw t s:=by
 obtain⟨p1,p2,p3⟩:=ZUh (c:=c) t s;obtain⟨k1,k2,k3⟩:=ZU8 (c:=c) t s;unfold ZFw;rw[p1,k1]
 rfl
theorem ZJw (t:ScT)(s:ScS):ZDH (t.nm c) s=ZDH t s/\endS (t.nm c) s=endS t s:=by
 unfold ZDH endS;rw[ZUX];exact⟨rfl,rfl⟩
theorem ZUs (t:ScT)(s:ScS):ZFF (t.nm c) s=ZFF t s:=by
 obtain⟨p1,p2,p3⟩:=ZUh (c:=c) t s;unfold ZFF ZUQ;rw[ZSQ,(ZJw t s).1,p1,p2,ZTj]
theorem ZU3 (t:ScT)(s:ScS):ZGP (t.nm c) s=ZGP t s:=by
 obtain⟨k1,k2,k3⟩:=ZU8 (c:=c) t s;unfold ZGP keyB;rw[(ZJw t s).2,k2,ZTj]
 rfl
theorem ZRY (t:ScT)(s:ScS):ZEu (t.nm c) s=ZEu t s:=by
 unfold ZEu;rw[(ZUh t s).2.2,(ZU8 t s).2.2]
theorem ZQ8 {t:ScT}{s:ScS}(h:ZAY t s=0):ZBi (t.nm c) s=c (ZBi t s):=by
 unfold ZBi
 rcases (ZCT h).2.1 with ⟨h1,h2,h3⟩|⟨h1,h2,h3⟩
 ·rw[if_pos h1,if_pos h1]
  have hi:s.print.toNat<t.prints.length:=by omega
  have e1:prAt t s=t.prints[s.print.toNat]:=by
   unfold prAt;rw[List.getD_eq_getElem?_getD,List.getElem?_eq_getElem hi];rfl
  have e2:prAt (t.nm c) s=(t.prints[s.print.toNat]).nm c:=by
   unfold prAt ScT.nm;rw[List.getD_eq_getElem?_getD,List.getElem?_map,List.getElem?_eq_getElem hi];rfl
  rw[e1,e2];rfl
 ·rw[if_neg (by omega),if_neg (by omega)]
  have hi:s.pack.toNat<t.packs.length:=by omega
  have e1:pkAt t s=t.packs[s.pack.toNat]:=by
   unfold pkAt;rw[List.getD_eq_getElem?_getD,List.getElem?_eq_getElem hi];rfl
  have e2:pkAt (t.nm c) s=(t.packs[s.pack.toNat]).nm c:=by
   unfold pkAt ScT.nm;rw[List.getD_eq_getElem?_getD,List.getElem?_map,List.getElem?_eq_getElem hi];rfl
  rw[e1,e2];rfl
theorem ZTf (t:ScT)(s:ScS):ZFF t s≠211:=by
 unfold ZFF
 repeat' split
 all_goals decide
theorem ZS7 (t:ScT)(s:ScS):ZGP t s≠211:=by
 unfold ZGP
 repeat' split
 all_goals decide
theorem ZVw {t:ScT}{s:ScS}(h:ZAY t s=0):(whyS t s≠211->whyS (t.nm c) s=whyS t s)/\(whyS t s=211->whyS (t.nm c) s≠211->∃r∈t.rights,c r.work=c (ZBi t s)/\r.work≠ZBi t s):=by
 have hr:ZB8 t s=true->ZB8 (t.nm c) s=true:=fun hq=>by
  obtain⟨r,hr,q⟩:=List.any_eq_true.1 hq;obtain⟨q1,q2⟩:=of_decide_eq_true q;refine List.any_eq_true.2 ⟨r.nm c,List.mem_map.2 ⟨r,hr,rfl⟩,decide_eq_true ⟨?_,?_⟩⟩
  ·rw[ZQ8 h,<-q1];rfl
  ·rw[ZRY,(ZJw t s).1];exact q2
 have hrest:(if 0<=s.print then ZFF (t.nm c) s else ZGP (t.nm c) s)=if 0<=s.print then ZFF t s else ZGP t s:=by rw[ZUs,ZU3]
 have hno:(if 0<=s.print then ZFF t s else ZGP t s)≠211:=by
  split
  ·exact ZTf t s
  ·exact ZS7 t s
 refine⟨fun h1=>?_,fun h1 h2=>?_⟩
 ·have hb:ZB8 t s=true:=by
   cases hq:ZB8 t s
   ·exact absurd (by unfold whyS;rw[if_pos hq]) h1
   ·rfl
  unfold whyS;rw[if_neg (show ¬ZB8 (t.nm c) s=false by rw[hr hb];simp),if_neg (show ¬ZB8 t s=false by rw[hb];simp),hrest]
 ·have hb:ZB8 t s=false:=by
   cases hq:ZB8 t s
   ·rfl
   ·unfold whyS at h1
    rw[if_neg (by rw[hq];simp)] at h1;exact absurd h1 hno
  have hu:ZB8 (t.nm c) s=true:=by
   cases hq:ZB8 (t.nm c) s
   ·exact absurd (by unfold whyS;rw[if_pos hq]) h2
   ·rfl
  obtain⟨r',hr',q⟩:=List.any_eq_true.1 hu;obtain⟨r,hrm,rfl⟩:=List.mem_map.1 hr';obtain⟨q1,q2⟩:=of_decide_eq_true q;rw[ZQ8 h] at q1;refine⟨r,hrm,q1,fun e=>?_⟩;rw[ZRY,(ZJw t s).1] at q2;have:ZB8 t s=true:=List.any_eq_true.2 ⟨r,hrm,decide_eq_true ⟨e,q2⟩⟩;rw[hb] at this;cases this
end Go.Dw
