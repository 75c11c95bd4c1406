/- ZA: chapter 03 with no program in sight: a site, moves, where cans are, how warm they are. -/
import Derived.Test.YtdfadhkbhbbabaaGreatDoorAG3
import Derived.Test.YtdfadhkbhbbabaaGreatDoorAG4
set_option linter.unusedVariables false
set_option linter.unusedSimpArgs false
namespace Go.Dw
structure Rm where
 name:List UInt8
 tlo:Int
 thi:Int
 dlo:Int
 dhi:Int
 people:Bool
 allows:Bool
 most:Int
 x:Int
 y:Int
deriving Inhabited
structure Cn where
 name:List UInt8
 base:Int
 frames:Int
 room:Int
deriving Inhabited
structure Mv where
 hour:Int
 can:Int
 to:Int
deriving DecidableEq,Inhabited
structure Si where
 rooms:List Rm
 cans:List Cn
 rlo:Int
 rhi:Int
 steps:List (Int×Int)
def ZCw (h:Int)(w:List Int)(m:Mv):List Int:=if m.hour<=h then w.set m.can.toNat m.to else w
def whrS (cans:List Cn)(kept:List Mv)(h:Int):List Int:=kept.foldl (ZCw h) (cans.map Cn.room)
theorem ZLd (cans:List Cn)(kept:List Mv)(m:Mv)(h:Int):whrS cans (kept++[m]) h=ZCw h (whrS cans kept h) m:=by unfold whrS;rw[List.foldl_append];rfl
theorem ZFj (cans:List Cn)(kept:List Mv)(h:Int):(whrS cans kept h).length=cans.length:=by
 unfold whrS;have:∀(w:List Int),(kept.foldl (ZCw h) w).length=w.length:=by
  induction kept with
  | nil=>intro w;rfl
  | cons m l ih =>
   intro w;rw[List.foldl_cons,ih];unfold ZCw
   split
   ·exact List.length_set
   ·rfl
 rw[this,List.length_map]
def InR (n:Nat)(w:List Int):Prop:=∀r∈w,0<=r/\r<n
theorem ZMB {n:Nat}{cans:List Cn}{kept:List Mv}{h:Int}(hc:∀c∈cans,0<=c.room/\c.room<n)(hk:∀m∈kept,0<=m.to/\m.to<n):InR n (whrS cans kept h):=by
 unfold whrS;have:∀(w:List Int),InR n w->InR n (kept.foldl (ZCw h) w):=by
  induction kept with
  | nil=>intro w hw;exact hw
  | cons m l ih =>
   intro w hw;rw[List.foldl_cons];refine ih (fun m' hm'=>hk m' (List.mem_cons_of_mem _ hm')) _ ?_;unfold ZCw
   split
   ·intro r hr
    rcases List.mem_or_eq_of_mem_set hr with q|rfl
    ·exact hw r q
    ·exact hk m List.mem_cons_self
   ·exact hw
 refine this _ fun r hr=>?_;obtain⟨c,hc',rfl⟩:=List.mem_map.1 hr;exact hc c hc'
def ZCy (a:List Int)(c:Cn)(r:Int):List Int:=if c.base=1 then a.set r.toNat (a.getD r.toNat 0+c.frames) else a
def amtK (n:Nat)(cans:List Cn)(w:List Int):Nat->List Int
 | 0=>List.replicate n 0
 | k+1=>ZCy (amtK n cans w k) (cans.getD k default) (w.getD k 0)
def amtS (n:Nat)(cans:List Cn)(w:List Int):List Int:=amtK n cans w cans.length
theorem ZDm (n:Nat)(cans:List Cn)(w:List Int):∀k,(amtK n cans w k).length=n
 | 0=>List.length_replicate
 | k+1=>by
  show (ZCy _ _ _).length=n
  unfold ZCy
  split
  ·rw[List.length_set,ZDm n cans w k]
  ·exact ZDm n cans w k
def inRm (c:Cn)(r' r:Int):Int:=if r'=r/\c.base=1 then c.frames else 0
def amtR (cans:List Cn)(w:List Int)(r:Int):Nat->Int
 | 0=>0
 | k+1=>amtR cans w r k+inRm (cans.getD k default) (w.getD k 0) r
theorem ZJw {n:Nat}{cans:List Cn}{w:List Int}(hw:InR n w){r:Nat}(hr:r<n):∀k≤w.length,(amtK n cans w k).getD r 0=amtR cans w r k
 | 0,_=>by
  show (List.replicate n (0:Int)).getD r 0=0
  rw[List.getD_eq_getElem?_getD,List.getElem?_replicate]
  split <;> rfl
 | k+1,hk=>by
  have ih:=ZJw hw hr (cans:=cans) k (by omega)
  show (ZCy _ _ _).getD r 0=amtR cans w r k+inRm _ _ _
  have hm:w.getD k 0∈w:=by rw[List.getD_eq_getElem?_getD,List.getElem?_eq_getElem (by omega)];exact List.getElem_mem _
  obtain⟨h0,h1⟩:=hw _ hm;generalize w.getD k 0=q at *;unfold ZCy inRm;have hl:=ZDm n cans w k
  by_cases hb:(cans.getD k default).base=1
  ·rw[if_pos hb]
   by_cases hq:q=(r:Int)
   ·have e:q.toNat=r:=by omega
    rw[if_pos ⟨hq,hb⟩,e,List.getD_eq_getElem?_getD,List.getElem?_set_self (by omega),Option.getD_some,ih]
   ·have e:q.toNat≠r:=by omega
    rw[if_neg (fun z=>hq z.1),List.getD_eq_getElem?_getD,List.getElem?_set_ne e,<-List.getD_eq_getElem?_getD,ih,Int.add_zero]
  ·rw[if_neg hb,if_neg (fun z=>hb z.2),ih,Int.add_zero]
theorem ZHu {cans:List Cn}(hc:∀c∈cans,1<=c.frames/\c.frames<=200000)(w:List Int)(r:Int):∀k≤cans.length,0<=amtR cans w r k/\amtR cans w r k<=200000*(k:Int)
 | 0,_=>by show 0<=(0:Int)/\(0:Int)<=_;omega
 | k+1,hk=>by
  have ih:=ZHu hc w r k (by omega);have hm:cans.getD k default∈cans:=by rw[List.getD_eq_getElem?_getD,List.getElem?_eq_getElem (by omega)];exact List.getElem_mem _
  have:=hc _ hm
  show 0<=amtR cans w r k+inRm _ _ _/\amtR cans w r k+inRm _ _ _<=_
  unfold inRm
  split <;> omega
def ZBo (steps:List (Int×Int))(a:Int):Int:=steps.foldl (fun m x=>if x.1<a then x.2 else m) 0
theorem ZLD (l:List (Int×Int))(x:Int×Int)(a:Int):ZBo (l++[x]) a=if x.1<a then x.2 else ZBo l a:=by unfold ZBo;rw[List.foldl_append];rfl
theorem ZJ4 {l:List (Int×Int)}(h:∀x∈l,0<=x.2/\x.2<=10000)(a:Int):0<=ZBo l a/\ZBo l a<=10000:=by
 unfold ZBo;have:∀(m:Int),0<=m/\m<=10000->0<=l.foldl (fun m x=>if x.1<a then x.2 else m) m/\l.foldl (fun m x=>if x.1<a then x.2 else m) m<=10000:=by
  induction l with
  | nil=>intro m hm;exact hm
  | cons x l ih =>
   intro m hm;rw[List.foldl_cons];refine ih (fun y hy=>h y (List.mem_cons_of_mem _ hy)) _ ?_
   split
   ·exact h x List.mem_cons_self
   ·exact hm
 exact this 0 (by decide)
theorem ZK9 {l:List (Int×Int)}(h:∀x∈l,0<=x.1):ZBo l 0=0:=by
 unfold ZBo;have:∀(m:Int),l.foldl (fun m x=>if x.1<0 then x.2 else m) m=m:=by
  induction l with
  | nil=>intro m;rfl
  | cons x l ih =>
   intro m;rw[List.foldl_cons,if_neg (by have:=h x List.mem_cons_self;omega)];exact ih (fun y hy=>h y (List.mem_cons_of_mem _ hy)) m
 exact this 0
def ZE5 (al:List Int)(rooms:List Rm)(a b:Nat):Bool:=decide (0<al.getD a 0) && (decide (0<al.getD b 0) || (rooms.getD b default).people)
def farS (p q:Rm):Int:=(p.x-q.x)*(p.x-q.x)+(p.y-q.y)*(p.y-q.y)
def ZBD (al:List Int)(rooms:List Rm)(steps:List (Int×Int))(p:Nat×Nat):Bool :=
 (ZE5 al rooms p.1 p.2 || ZE5 al rooms p.2 p.1) && decide (farS (rooms.getD p.1 default) (rooms.getD p.2 default)<max (ZBo steps (al.getD p.1 0)) (ZBo steps (al.getD p.2 0))*max (ZBo steps (al.getD p.1 0)) (ZBo steps (al.getD p.2 0)))
def prsI (a k:Nat):List (Nat×Nat):=(List.range' (a+1) k).map fun b=>(a,b)
theorem ZKd (a k:Nat):prsI a (k+1)=prsI a k++[(a,a+1+k)]:=by
 unfold prsI;rw[List.range'_concat,List.map_append,Nat.one_mul];rfl
def prsN (n:Nat):Nat->List (Nat×Nat)
 | 0=>[]
 | i+1=>prsN n i++prsI i (n-(i+1))
def ZMf (al:List Int)(rooms:List Rm)(steps:List (Int×Int)):List (Nat×Nat):=(prsN rooms.length rooms.length).filter (ZBD al rooms steps)
theorem ZJU (n:Nat):∀i,i<=n->(prsN n i).length<=i*n
 | 0,_=>Nat.zero_le _
 | i+1,hi=>by
  have:=ZJU n i (by omega)
  show (prsN n i++prsI i _).length<=_
  unfold prsI;rw[List.length_append,List.length_map,List.length_range',Nat.succ_mul];omega
def ZBL:List Int:=[450,700,1070,1600,2360,3410,4850,6800,9400,12830,17300,23050,30400,39600,51200,65400,83000,104300,130200]
def vapS (t:Int):Int :=
 if (t+300).toNat % 50=0 then ZBL.getD ((t+300).toNat / 50) 0
 else ZBL.getD ((t+300).toNat / 50) 0+((ZBL.getD ((t+300).toNat / 50+1) 0-ZBL.getD ((t+300).toNat / 50) 0)*(((t+300).toNat % 50:Nat):Int)).tdiv 50
theorem ZFO (k:Nat):0<=ZBL.getD k 0/\ZBL.getD k 0<=130200:=by
 by_cases h:k<19
 ·have:∀k<19,0<=ZBL.getD k 0/\ZBL.getD k 0<=130200:=by decide
  exact this k h
 ·rw[List.getD_eq_getElem?_getD,List.getElem?_eq_none (by simp[ZBL];omega)];decide
theorem ZKZ {k:Nat}(h:k<18):ZBL.getD k 0<=ZBL.getD (k+1) 0:=by
 have:∀k<18,ZBL.getD k 0<=ZBL.getD (k+1) 0:=by decide
 exact this k h
theorem ZQN {t:Int}(h0:-300<=t)(h1:t<=600):0<=vapS t/\vapS t<=400000:=by
 unfold vapS;obtain⟨a1,a2⟩:=ZFO ((t+300).toNat / 50)
 split
 ·omega
 ·rename_i hr
  have hk:(t+300).toNat / 50<18:=by omega
  have hu:=ZKZ hk;obtain⟨b1,b2⟩:=ZFO ((t+300).toNat / 50+1);generalize ZBL.getD ((t+300).toNat / 50) 0=x at *;generalize ZBL.getD ((t+300).toNat / 50+1) 0=y at *;have hm:(((t+300).toNat % 50:Nat):Int)<50:=by omega
  have hq0:0<=(((t+300).toNat % 50:Nat):Int):=Int.natCast_nonneg _;generalize (((t+300).toNat % 50:Nat):Int)=q at *
  ·have h2:0<=(y-x)*q:=Int.mul_nonneg (by omega) hq0
   have h3:(y-x)*q<=130200*50:=by
    have:=Int.mul_le_mul (show y-x<=130200 by omega) (show q<=50 by omega) hq0 (by decide);exact this
   rw[Int.tdiv_eq_ediv_of_nonneg h2];omega
def wetS (own temp damp:Int):Bool:=decide (1000*vapS own<damp*vapS temp)
def mayS (t:Int×Int)(r:Rm):Bool:=wetS t.1 r.thi r.dhi
def ZCD (n rate:Int):Int:=if n*rate<0 then -((99-n*rate).tdiv 100) else (n*rate).tdiv 100
def ZMg (rlo rhi:Int)(t:Int×Int)(r:Rm):Int×Int :=
 (t.1+ZCD (r.tlo-t.1) (if r.tlo<t.1 then rhi else rlo),t.2-ZCD (t.2-r.thi) (if t.2<r.thi then rhi else rlo))
def kN (kept:List Mv)(h:Int):Nat:=(kept.takeWhile fun m=>decide (m.hour<=h)).length
def ZGv (can:Int)(r:Int)(m:Mv):Int:=if m.can=can then m.to else r
def rmS (can r0:Int)(l:List Mv):Int:=l.foldl (ZGv can) r0
theorem ZRq (can r0:Int)(l:List Mv)(m:Mv):rmS can r0 (l++[m])=ZGv can (rmS can r0 l) m:=by unfold rmS;rw[List.foldl_append];rfl
def tmS (s:Si)(kept:List Mv)(can:Int):Nat->Int×Int
 | 0=>((s.rooms.getD (s.cans.getD can.toNat default).room.toNat default).tlo,(s.rooms.getD (s.cans.getD can.toNat default).room.toNat default).thi)
 | h+1=>ZMg s.rlo s.rhi (tmS s kept can h) (s.rooms.getD (rmS can (s.cans.getD can.toNat default).room (kept.take (kN kept h))).toNat default)
def ZEV (s:Si)(kept:List Mv)(m:Mv):Int :=
 if kept≠[]/\m.hour<(kept.getD (kept.length-1) default).hour then 130
 else if (whrS s.cans kept m.hour).getD m.can.toNat 0=m.to then 131
 else if (s.cans.getD m.can.toNat default).base=1/\(s.rooms.getD m.to.toNat default).allows=false then 132
 else if (s.cans.getD m.can.toNat default).base=1/\(s.rooms.getD m.to.toNat default).most<(amtS s.rooms.length s.cans ((whrS s.cans kept m.hour).set m.can.toNat m.to)).getD m.to.toNat 0 then 133
 else if ZMf (amtS s.rooms.length s.cans ((whrS s.cans kept m.hour).set m.can.toNat m.to)) s.rooms s.steps≠[] then 134
 else if mayS (tmS s kept m.can m.hour.toNat) (s.rooms.getD m.to.toNat default)=true then 135
 else 0
def ZBP (s:Si)(k:List Mv)(m:Mv):List Mv:=if ZEV s k m=0 then k++[m] else k
def ZC3 (s:Si)(l:List Mv):List Mv:=l.foldl (ZBP s) []
theorem ZOU (s:Si)(l:List Mv)(m:Mv):ZC3 s (l++[m])=ZBP s (ZC3 s l) m:=by unfold ZC3;rw[List.foldl_append];rfl
theorem ZKS (s:Si)(l:List Mv):∀m∈ZC3 s l,m∈l:=by
 unfold ZC3;have:∀(k:List Mv),∀m∈l.foldl (ZBP s) k,m∈k\/m∈l:=by
  induction l with
  | nil=>intro k m hm;exact .inl hm
  | cons x l ih =>
   intro k m hm;rw[List.foldl_cons] at hm
   rcases ih _ m hm with q|q
   ·unfold ZBP at q
    split at q
    ·rcases List.mem_append.1 q with q|q
     ·exact .inl q
     ·exact .inr (by rw[List.mem_singleton.1 q];exact List.mem_cons_self)
    ·exact .inl q
   ·exact .inr (List.mem_cons_of_mem _ q)
 intro m hm
 rcases this [] m hm with q|q
 ·exact nomatch q
 ·exact q
theorem ZSS (s:Si)(l:List Mv):(ZC3 s l).length<=l.length:=by
 unfold ZC3;have:∀(k:List Mv),(l.foldl (ZBP s) k).length<=k.length+l.length:=by
  induction l with
  | nil=>intro k;exact Nat.le_refl _
  | cons x l ih =>
   intro k;rw[List.foldl_cons,List.length_cons];refine Nat.le_trans (ih _) ?_;unfold ZBP
   split
   ·rw[List.length_append,List.length_singleton];omega
   ·omega
 simpa using this []
theorem ZUV (s:Si)(l:List Mv):(ZC3 s l).Pairwise fun a b=>a.hour<=b.hour:=by
 unfold ZC3;have:∀(k:List Mv),(k.Pairwise fun a b=>a.hour<=b.hour)->(l.foldl (ZBP s) k).Pairwise fun a b=>a.hour<=b.hour:=by
  induction l with
  | nil=>intro k hk;exact hk
  | cons x l ih =>
   intro k hk;rw[List.foldl_cons];refine ih _ ?_;unfold ZBP
   split
   ·rename_i hz
    refine List.pairwise_append.2 ⟨hk,List.pairwise_singleton _ _,fun a ha b hb=>?_⟩;rw[List.mem_singleton.1 hb];unfold ZEV at hz
    split at hz
    ·exact absurd hz (by decide)
    rename_i h1;have hne:k≠[]:=fun e=>by rw[e] at ha;exact nomatch ha
    have hlt:(k.getD (k.length-1) default).hour<=x.hour:=by
     by_cases hh:x.hour<(k.getD (k.length-1) default).hour
     ·exact absurd ⟨hne,hh⟩ h1
     ·omega
    have hpos:0<k.length:=List.length_pos_iff.2 hne;obtain⟨i,hi,rfl⟩:=List.getElem_of_mem ha;rw[List.getD_eq_getElem?_getD,List.getElem?_eq_getElem (show k.length-1<k.length by omega),Option.getD_some] at hlt
    by_cases hil:i=k.length-1
    ·subst hil;exact hlt
    ·have:=List.pairwise_iff_getElem.1 hk i (k.length-1) hi (by omega) (by omega)
     omega
   ·exact hk
 exact this [] .nil
end Go.Dw
