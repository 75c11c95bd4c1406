/- D1: decay with no program in sight: what is right; strengths; what a level becomes. -/
import Derived.Test.YtcjmpdpgfmjcgaaGreatDoorMG15
namespace Go.Dw
open Go Go.Dx Go.Proofs
structure Sp where
 lo:Int
 hi:Int
structure CPt where
 at':Int
 factor:Int
structure DRule where
 heat:List CPt
 wet:List CPt
 own:Int
 feed:Int
 grades:List Int
 lost:Int
structure DDay where
 temp:Sp
 damp:Sp
structure DTest where
 day:Int
 grade:Int
 error:Int
structure DTask where
 rule:DRule
 first:Int
 days:List DDay
 start:Sp
 tests:List DTest
def curveGo (lo hi:Int):Option CPt->List CPt->Int
 | _,[]=>0
 | none,p::l=>if (p.at'<lo\/hi<p.at')\/(p.factor<0\/1000<p.factor) then 7 else curveGo lo hi (some p) l
 | some b,p::l=>if (p.at'<lo\/hi<p.at')\/(p.factor<0\/1000<p.factor) then 7 else if p.at'<=b.at'\/p.factor<b.factor then 2 else curveGo lo hi (some p) l
def curveErr (lo hi:Int)(l:List CPt):Int:=if (l.length:Int)<2\/8<(l.length:Int) then 3 else curveGo lo hi none l
def gradesGo:Int->List Int->Int
 | _,[]=>0
 | b,n::l=>if n<1\/1000000<n then 7 else if n<=b then 2 else gradesGo n l
def ruleErr (r:DRule):Int :=
 if curveErr (-300) 600 r.heat≠0 then curveErr (-300) 600 r.heat
 else if curveErr 0 1000 r.wet≠0 then curveErr 0 1000 r.wet
 else if (r.own<0\/100000<r.own)\/(r.feed<0\/999999<r.feed) then 7
 else if gradesGo 0 r.grades≠0 then gradesGo 0 r.grades
 else if r.lost<1\/1000000<r.lost then 7 else 0
def climErr (d:DDay):Int :=
 if ((d.temp.lo < -300\/600<d.temp.lo)\/(d.temp.hi < -300\/600<d.temp.hi))\/((d.damp.lo<0\/1000<d.damp.lo)\/(d.damp.hi<0\/1000<d.damp.hi)) then 7
 else if d.temp.hi<d.temp.lo\/d.damp.hi<d.damp.lo then 2 else 0
def spanErr (s:Sp):Int:=if (s.lo<0\/1000000<s.lo)\/(s.hi<0\/1000000<s.hi) then 7 else if s.hi<s.lo then 2 else 0
def daysGo:List DDay->Int
 | []=>0
 | d::l=>if climErr d≠0 then climErr d else daysGo l
def testBad (t:DTask)(x:DTest):Bool:=decide ((x.day<t.first\/t.first+t.days.length<x.day)\/(x.grade<0\/3<x.grade)\/(x.error<0\/3<x.error))
def dErr (t:DTask):Int :=
 if ruleErr t.rule≠0 then ruleErr t.rule
 else if 400<(t.days.length:Int)\/20<(t.tests.length:Int) then 3
 else if (t.first<0\/80000<t.first)\/80000<t.first+t.days.length then 7
 else if daysGo t.days≠0 then daysGo t.days
 else if spanErr t.start≠0 then spanErr t.start
 else if t.tests.any (testBad t)=true then 7 else 0
structure CurveOk (lo hi:Int)(l:List CPt):Prop where
 len2:2<=l.length
 len8:l.length<=8
 rng:∀p∈l,lo<=p.at'/\p.at'<=hi/\0<=p.factor/\p.factor<=1000
 asc:l.Pairwise fun a b=>a.at'<b.at'/\a.factor<=b.factor
theorem curveGo_none {lo hi:Int}:∀{l:List CPt},curveGo lo hi none l=0->(∀p∈l,lo<=p.at'/\p.at'<=hi/\0<=p.factor/\p.factor<=1000)/\l.Pairwise fun a b=>a.at'<b.at'/\a.factor<=b.factor:=by
 have key:∀(l:List CPt) (b:CPt),curveGo lo hi (some b) l=0->(∀p∈l,lo<=p.at'/\p.at'<=hi/\0<=p.factor/\p.factor<=1000)/\(b::l).Pairwise fun a b=>a.at'<b.at'/\a.factor<=b.factor:=by
  intro l
  induction l with
  | nil=>exact fun b _=>⟨(fun _ h=>nomatch h),List.pairwise_singleton _ _⟩
  | cons p l ih =>
   intro b h
   rw[curveGo] at h
   split at h
   ·cases h
   ·rename_i h1
    split at h
    ·cases h
    ·rename_i h2
     obtain⟨g1,g2⟩:=ih p h
     refine⟨fun q hq=>?_,List.pairwise_cons.2 ⟨fun q hq=>?_,g2⟩⟩
     ·rcases List.mem_cons.1 hq with e|g
      ·rw[e];omega
      ·exact g1 q g
     ·rcases List.mem_cons.1 hq with e|g
      ·rw[e];omega
      ·have:=(List.pairwise_cons.1 g2).1 q g
       omega
 intro l h
 cases l with
 | nil=>exact⟨(fun _ h=>nomatch h),List.Pairwise.nil⟩
 | cons p l =>
  rw[curveGo] at h
  split at h
  ·cases h
  ·rename_i h1
   obtain⟨g1,g2⟩:=key l p h
   refine⟨fun q hq=>?_,g2⟩
   rcases List.mem_cons.1 hq with e|g
   ·rw[e];omega
   ·exact g1 q g
theorem curve_ok {lo hi:Int}{l:List CPt}(h:curveErr lo hi l=0):CurveOk lo hi l:=by
 unfold curveErr at h
 split at h
 ·cases h
 ·rename_i h1
  obtain⟨g1,g2⟩:=curveGo_none h
  exact⟨by omega,by omega,g1,g2⟩
structure SpOk (s:Sp):Prop where
 lo:0<=s.lo
 le:s.lo<=s.hi
 hi:s.hi<=1000000
structure RuleOk (r:DRule):Prop where
 heat:CurveOk (-300) 600 r.heat
 wet:CurveOk 0 1000 r.wet
 own0:0<=r.own
 own1:r.own<=100000
 feed0:0<=r.feed
 feed1:r.feed<=999999
 g1:∀n∈r.grades,1<=n/\n<=1000000
 g2:r.grades.Pairwise (· < ·)
 lost0:1<=r.lost
 lost1:r.lost<=1000000
theorem grades_ok:∀{l:List Int}{b:Int},gradesGo b l=0->(∀n∈l,b<n/\1<=n/\n<=1000000)/\l.Pairwise (· < ·)
 | [],_,_=>⟨fun _ h=>(nomatch h),.nil⟩
 | n::l,b,h=>by
  rw[gradesGo] at h
  split at h
  ·cases h
  ·rename_i h1
   split at h
   ·cases h
   ·rename_i h2
    obtain⟨g1,g2⟩:=grades_ok h
    refine⟨fun q hq=>?_,List.pairwise_cons.2 ⟨fun q hq=>(g1 q hq).1,g2⟩⟩
    rcases List.mem_cons.1 hq with e|g
    ·rw[e];omega
    ·have:=g1 q g;omega
theorem rule_ok {r:DRule}(h:ruleErr r=0):RuleOk r:=by
 unfold ruleErr at h
 split at h
 ·rename_i h1;exact absurd h h1
 ·rename_i h1
  split at h
  ·rename_i h2;exact absurd h h2
  ·rename_i h2
   split at h
   ·cases h
   ·rename_i h3
    split at h
    ·rename_i h4;exact absurd h h4
    ·rename_i h4
     split at h
     ·cases h
     ·rename_i h5
      obtain⟨g1,g2⟩:=grades_ok (Classical.not_not.1 h4)
      exact⟨curve_ok (Classical.not_not.1 h1),curve_ok (Classical.not_not.1 h2),by omega,by omega,by omega,by omega,fun n hn=>(g1 n hn).2,g2,by omega,by omega⟩
structure DayOk (d:DDay):Prop where
 t0:-300<=d.temp.lo
 t1:d.temp.lo<=d.temp.hi
 t2:d.temp.hi<=600
 d0:0<=d.damp.lo
 d1:d.damp.lo<=d.damp.hi
 d2:d.damp.hi<=1000
theorem clim_ok {d:DDay}(h:climErr d=0):DayOk d:=by
 unfold climErr at h
 split at h
 ·cases h
 ·split at h
  ·cases h
  ·constructor <;> omega
theorem days_ok:∀{l:List DDay},daysGo l=0->∀d∈l,DayOk d
 | [],_,_,h=>nomatch h
 | d::l,h,x,hx=>by
  rw[daysGo] at h
  split at h
  ·rename_i h1;exact absurd h h1
  ·rename_i h1
   rcases List.mem_cons.1 hx with e|g
   ·rw[e];exact clim_ok (Classical.not_not.1 h1)
   ·exact days_ok h x g
theorem span_ok {s:Sp}(h:spanErr s=0):SpOk s:=by
 unfold spanErr at h
 split at h
 ·cases h
 ·split at h
  ·cases h
  ·constructor <;> omega
structure TestOk (t:DTask)(x:DTest):Prop where
 d0:t.first<=x.day
 d1:x.day<=t.first+t.days.length
 g0:0<=x.grade
 g1:x.grade<=3
 e0:0<=x.error
 e1:x.error<=3
structure DOk (t:DTask):Prop where
 rule:RuleOk t.rule
 days1:t.days.length<=400
 tests1:t.tests.length<=20
 first0:0<=t.first
 last:t.first+t.days.length<=80000
 days:∀d∈t.days,DayOk d
 start:SpOk t.start
 tests:∀x∈t.tests,TestOk t x
theorem d_ok {t:DTask}(h:dErr t=0):DOk t:=by
 unfold dErr at h
 split at h
 ·rename_i h1;exact absurd h h1
 ·rename_i h1
  split at h
  ·cases h
  ·rename_i h2
   split at h
   ·cases h
   ·rename_i h3
    split at h
    ·rename_i h4;exact absurd h h4
    ·rename_i h4
     split at h
     ·rename_i h5;exact absurd h h5
     ·rename_i h5
      split at h
      ·cases h
      ·rename_i h6
       refine⟨rule_ok (Classical.not_not.1 h1),by omega,by omega,by omega,by omega,days_ok (Classical.not_not.1 h4),span_ok (Classical.not_not.1 h5),fun x hx=>?_⟩
       rw[Bool.not_eq_true,List.any_eq_false] at h6
       have:=h6 x hx
       unfold testBad at this
       rw[decide_eq_true_eq] at this
       constructor <;> omega
def factorGo (n:Int):CPt->List CPt->Int
 | a,[]=>a.factor
 | a,b::l=>if n<=b.at' then a.factor+((b.factor-a.factor)*(n-a.at')).tdiv (b.at'-a.at') else factorGo n b l
def factorS:List CPt->Int->Int
 | [],_=>0
 | a::l,n=>if n<=a.at' then a.factor else factorGo n a l
theorem part_rng {x y w:Int}(hx:0<=x)(hy:0<=y)(hw:0<w)(h:y<=w):0<=(x*y).tdiv w/\(x*y).tdiv w<=x:=by
 have h1:0<=x*y:=Int.mul_nonneg hx hy
 rw[Int.tdiv_eq_ediv_of_nonneg h1]
 refine⟨Int.ediv_nonneg h1 (Int.le_of_lt hw),?_⟩
 have h2:x*y<=x*w:=Int.mul_le_mul_of_nonneg_left h hx
 have h3:x*y / w<=x*w / w:=Int.ediv_le_ediv hw h2
 rwa [Int.mul_ediv_cancel _ (by omega)] at h3
theorem part_mono {x y z w:Int}(hx:0<=x)(hy:0<=y)(hw:0<w)(h:y<=z):(x*y).tdiv w<=(x*z).tdiv w:=by
 have h1:0<=x*y:=Int.mul_nonneg hx hy
 have h2:x*y<=x*z:=Int.mul_le_mul_of_nonneg_left h hx
 rw[Int.tdiv_eq_ediv_of_nonneg h1,Int.tdiv_eq_ediv_of_nonneg (by omega)]
 exact Int.ediv_le_ediv hw h2
theorem factorGo_rng {n:Int}:∀{l:List CPt}{a:CPt},(a::l).Pairwise (fun a b=>a.at'<b.at'/\a.factor<=b.factor)->a.at'<=n->(∀p∈a::l,0<=p.factor/\p.factor<=1000)->a.factor<=factorGo n a l/\factorGo n a l<=1000
 | [],a,_,_,hr=>⟨Int.le_refl _,(hr a List.mem_cons_self).2⟩
 | b::l,a,hp,hn,hr=>by
  have hp1:=List.pairwise_cons.1 hp
  have hab:=hp1.1 b List.mem_cons_self
  rw[factorGo]
  split
  ·rename_i h
   have h1:=part_rng (x:=b.factor-a.factor) (y:=n-a.at') (w:=b.at'-a.at') (by omega) (by omega) (by omega) (by omega)
   have:=hr b (List.mem_cons_of_mem _ List.mem_cons_self)
   omega
  ·have h1:=factorGo_rng (n:=n) hp1.2 (by omega) fun p hp=>hr p (List.mem_cons_of_mem _ hp)
   omega
theorem factorGo_mono {n m:Int}(hnm:n<=m):∀{l:List CPt}{a:CPt},(a::l).Pairwise (fun a b=>a.at'<b.at'/\a.factor<=b.factor)->a.at'<=n->(∀p∈a::l,0<=p.factor/\p.factor<=1000)->factorGo n a l<=factorGo m a l
 | [],a,_,_,_=>Int.le_refl _
 | b::l,a,hp,hn,hr=>by
  have hp1:=List.pairwise_cons.1 hp
  have hab:=hp1.1 b List.mem_cons_self
  rw[factorGo,factorGo]
  by_cases h1:n<=b.at'
  ·rw[if_pos h1]
   by_cases h2:m<=b.at'
   ·rw[if_pos h2]
    have:=part_mono (x:=b.factor-a.factor) (y:=n-a.at') (z:=m-a.at') (w:=b.at'-a.at') (by omega) (by omega) (by omega) (by omega)
    omega
   ·rw[if_neg h2]
    have h3:=part_rng (x:=b.factor-a.factor) (y:=n-a.at') (w:=b.at'-a.at') (by omega) (by omega) (by omega) (by omega)
    have h4:=factorGo_rng (n:=m) hp1.2 (by omega) fun p hp=>hr p (List.mem_cons_of_mem _ hp)
    omega
  ·rw[if_neg h1,if_neg (by omega)]
   exact factorGo_mono hnm hp1.2 (by omega) fun p hp=>hr p (List.mem_cons_of_mem _ hp)
theorem factor_rng {lo hi n:Int}{l:List CPt}(h:CurveOk lo hi l):0<=factorS l n/\factorS l n<=1000:=by
 cases l with
 | nil=>exact⟨Int.le_refl _,(show (0:Int)<=1000 by decide)⟩
 | cons a l =>
  have hr:∀p∈a::l,0<=p.factor/\p.factor<=1000:=fun p hp=>(h.rng p hp).2.2
  have ha:=hr a List.mem_cons_self
  rw[factorS]
  split
  ·exact ha
  ·have:=factorGo_rng (n:=n) h.asc (by omega) hr
   omega
theorem factor_mono {lo hi n m:Int}{l:List CPt}(h:CurveOk lo hi l)(hnm:n<=m):factorS l n<=factorS l m:=by
 cases l with
 | nil=>exact Int.le_refl _
 | cons a l =>
  have hr:∀p∈a::l,0<=p.factor/\p.factor<=1000:=fun p hp=>(h.rng p hp).2.2
  rw[factorS,factorS]
  by_cases h1:n<=a.at'
  ·rw[if_pos h1]
   by_cases h2:m<=a.at'
   ·rw[if_pos h2];exact Int.le_refl _
   ·rw[if_neg h2];exact (factorGo_rng (n:=m) h.asc (by omega) hr).1
  ·rw[if_neg h1,if_neg (by omega)]
   exact factorGo_mono hnm h.asc (by omega) hr
def strongS (r:DRule)(d:DDay):Sp:=⟨(factorS r.heat d.temp.lo*factorS r.wet d.damp.lo).tdiv 1000,(factorS r.heat d.temp.hi*factorS r.wet d.damp.hi).tdiv 1000⟩
structure Strong (s:Sp):Prop where
 lo:0<=s.lo
 le:s.lo<=s.hi
 hi:s.hi<=1000
theorem strong_ok {r:DRule}{d:DDay}(hr:RuleOk r)(hd:DayOk d):Strong (strongS r d):=by
 have h1:=factor_rng (n:=d.temp.lo) hr.heat
 have h2:=factor_rng (n:=d.temp.hi) hr.heat
 have h3:=factor_rng (n:=d.damp.lo) hr.wet
 have h4:=factor_rng (n:=d.damp.hi) hr.wet
 have h5:=factor_mono hr.heat hd.t1
 have h6:=factor_mono hr.wet hd.d1
 have p1:=part_rng (x:=factorS r.heat d.temp.lo) (y:=factorS r.wet d.damp.lo) (w:=1000) h1.1 h3.1 (by decide) h3.2
 have p2:=part_rng (x:=factorS r.heat d.temp.hi) (y:=factorS r.wet d.damp.hi) (w:=1000) h2.1 h4.1 (by decide) h4.2
 have p3:=part_mono (x:=factorS r.heat d.temp.lo) (y:=factorS r.wet d.damp.lo) (z:=factorS r.wet d.damp.hi) (w:=1000) h1.1 h3.1 (by decide) h6
 have p4:=part_mono (x:=factorS r.wet d.damp.hi) (y:=factorS r.heat d.temp.lo) (z:=factorS r.heat d.temp.hi) (w:=1000) h4.1 h1.1 (by decide) h5
 rw[Int.mul_comm (factorS r.wet d.damp.hi),Int.mul_comm (factorS r.wet d.damp.hi)] at p4
 refine⟨p1.1,Int.le_trans p3 p4,?_⟩
 show (factorS r.heat d.temp.hi*factorS r.wet d.damp.hi).tdiv 1000<=1000
 omega
def baseS (r:DRule)(n:Int):Int:=r.own*1000000+n*r.feed
def leastS (r:DRule)(s:Sp)(n:Int):Int:=min 1000000 (n+(baseS r n*s.lo).tdiv 1000000000)
def mostS (r:DRule)(s:Sp)(n:Int):Int:=min 1000000 (n+(baseS r n*s.hi+999999999).tdiv 1000000000)
theorem base_rng {r:DRule}(hr:RuleOk r){n:Int}(h0:0<=n)(h1:n<=1000000):0<=baseS r n/\baseS r n<=1099999000000:=by
 have a1:=hr.own0
 have a2:=hr.own1
 have a3:=hr.feed0
 have a4:=hr.feed1
 have h2:0<=n*r.feed:=Int.mul_nonneg h0 a3
 have h3:n*r.feed<=1000000*999999:=Int.mul_le_mul h1 a4 a3 (by decide)
 unfold baseS
 omega
theorem base_mono {r:DRule}(hr:RuleOk r){n m:Int}(h:n<=m):baseS r n<=baseS r m:=by
 have h2:n*r.feed<=m*r.feed:=Int.mul_le_mul_of_nonneg_right h hr.feed0
 unfold baseS
 omega
theorem force_rng {r:DRule}(hr:RuleOk r){s:Sp}(hs:Strong s){n:Int}(h0:0<=n)(h1:n<=1000000):0<=baseS r n*s.lo/\baseS r n*s.lo<=baseS r n*s.hi/\baseS r n*s.hi<=1099999000000000:=by
 have hb:=base_rng hr h0 h1
 have s1:=hs.lo
 have s2:=hs.le
 have s3:=hs.hi
 refine⟨Int.mul_nonneg hb.1 s1,Int.mul_le_mul_of_nonneg_left s2 hb.1,?_⟩
 have:baseS r n*s.hi<=1099999000000*1000:=Int.mul_le_mul hb.2 s3 (by omega) (by decide)
 omega
theorem least_most {r:DRule}(hr:RuleOk r){s:Sp}(hs:Strong s){n:Int}(h0:0<=n)(h1:n<=1000000):n<=leastS r s n/\leastS r s n<=mostS r s n/\mostS r s n<=1000000:=by
 obtain⟨f1,f2,f3⟩:=force_rng hr hs h0 h1
 unfold leastS mostS
 rw[Int.tdiv_eq_ediv_of_nonneg f1,Int.tdiv_eq_ediv_of_nonneg (by omega)]
 omega
theorem least_mono {r:DRule}(hr:RuleOk r){s:Sp}(hs:Strong s){n m:Int}(h0:0<=n)(h:n<=m)(h1:m<=1000000):leastS r s n<=leastS r s m:=by
 obtain⟨f1,f2,f3⟩:=force_rng hr hs h0 (by omega)
 obtain⟨g1,g2,g3⟩:=force_rng hr hs (n:=m) (by omega) h1
 have hb:baseS r n*s.lo<=baseS r m*s.lo:=Int.mul_le_mul_of_nonneg_right (base_mono hr h) hs.lo
 unfold leastS
 rw[Int.tdiv_eq_ediv_of_nonneg f1,Int.tdiv_eq_ediv_of_nonneg g1]
 omega
theorem most_mono {r:DRule}(hr:RuleOk r){s:Sp}(hs:Strong s){n m:Int}(h0:0<=n)(h:n<=m)(h1:m<=1000000):mostS r s n<=mostS r s m:=by
 obtain⟨f1,f2,f3⟩:=force_rng hr hs h0 (by omega)
 obtain⟨g1,g2,g3⟩:=force_rng hr hs (n:=m) (by omega) h1
 have hb:baseS r n*s.hi<=baseS r m*s.hi:=Int.mul_le_mul_of_nonneg_right (base_mono hr h) (by have:=hs.lo;have:=hs.le;omega)
 unfold mostS
 rw[Int.tdiv_eq_ediv_of_nonneg (by omega),Int.tdiv_eq_ediv_of_nonneg (by omega)]
 omega
theorem no_gap {r:DRule}(hr:RuleOk r){s:Sp}(hs:Strong s){n:Int}(h0:0<=n)(h1:n+1<=1000000):leastS r s (n+1)<=mostS r s n+1:=by
 obtain⟨f1,f2,f3⟩:=force_rng hr hs h0 (by omega)
 obtain⟨g1,g2,g3⟩:=force_rng hr hs (n:=n+1) (by omega) h1
 have e:baseS r (n+1)*s.lo=baseS r n*s.lo+r.feed*s.lo:=by
  unfold baseS
  rw[Int.add_mul n 1 r.feed,Int.one_mul,<-Int.add_assoc,Int.add_mul]
 have hf:r.feed*s.lo<=999999*1000:=Int.mul_le_mul hr.feed1 (by have:=hs.le;have:=hs.hi;omega) hs.lo (by decide)
 unfold leastS mostS
 rw[Int.tdiv_eq_ediv_of_nonneg g1,Int.tdiv_eq_ediv_of_nonneg (by omega),e]
 omega
end Go.Dw
/- D2: decay: what can be known, with no program in sight. -/
namespace Go.Dw
open Go Go.Dx Go.Proofs
def meetS (a b:Sp):Sp:=⟨max a.lo b.lo,min a.hi b.hi⟩
def keepS (g:List Int)(x:DTest):Sp:=⟨if 0<x.grade-x.error then g.getD (x.grade-x.error-1).toNat 0 else 0,if x.grade+x.error<3 then g.getD (x.grade+x.error).toNat 0-1 else 1000000⟩
def growS (r:DRule)(s n:Sp):Sp:=⟨leastS r s n.lo,mostS r s n.hi⟩
def noTest:DTest:=⟨0,0,0⟩
def noDay:DDay:=⟨⟨0,0⟩,⟨0,0⟩⟩
def testAt (t:DTask)(k:Nat):DTest:=t.tests.getD k noTest
def forceAt (t:DTask)(i:Nat):Sp:=strongS t.rule (t.days.getD i noDay)
def onS (t:DTask):Sp->Nat->Nat->Sp
 | n,_,0=>n
 | n,i,k+1=>onS t (growS t.rule (forceAt t i) n) (i+1) k
theorem onS_succ (t:DTask):∀(k:Nat)(n:Sp)(i:Nat),onS t n i (k+1)=growS t.rule (forceAt t (i+k)) (onS t n i k)
 | 0,n,i=>rfl
 | k+1,n,i=>by
  show onS t (growS t.rule (forceAt t i) n) (i+1) (k+1)=_
  rw[onS_succ t k]
  show _=growS t.rule (forceAt t (i+(k+1))) (onS t (growS t.rule (forceAt t i) n) (i+1) k)
  rw[show i+1+k=i+(k+1) by omega]
def dayLt (t:DTask)(a b:Nat):Prop:=(testAt t a).day<(testAt t b).day\/(testAt t a).day=(testAt t b).day/\a<b
def dayLe (t:DTask)(a b:Nat):Bool:=decide ((testAt t a).day<(testAt t b).day\/(testAt t a).day=(testAt t b).day/\a<=b)
def ordD (t:DTask):List Nat:=(List.range t.tests.length).mergeSort (dayLe t)
theorem ordD_perm (t:DTask):(ordD t).Perm (List.range t.tests.length):=List.mergeSort_perm _ _
theorem ordD_nodup (t:DTask):(ordD t).Nodup:=(ordD_perm t).nodup_iff.2 List.nodup_range
theorem mem_ordD {t:DTask}{k:Nat}:k∈ordD t ↔ k<t.tests.length:=(ordD_perm t).mem_iff.trans List.mem_range
theorem ordD_pw (t:DTask):(ordD t).Pairwise (dayLt t):=by
 have h1:=List.pairwise_mergeSort (le:=dayLe t) (fun a b c h1 h2=>decide_eq_true (by have:=of_decide_eq_true h1;have:=of_decide_eq_true h2;omega)) (fun a b=>by simp only[dayLe,Bool.or_eq_true,decide_eq_true_eq];omega) (List.range t.tests.length)
 exact (List.Pairwise.and h1 (ordD_nodup t)).imp fun ⟨h1,h2⟩=>by have:=of_decide_eq_true h1;unfold dayLt;omega
theorem ordD_eq {t:DTask}{s:List Nat}(hp:s.Perm (List.range t.tests.length))(hb:s.Pairwise (dayLt t)):s=ordD t :=
 perm_pw_eq (R:=dayLt t) (fun a b h g=>by unfold dayLt at h g;omega) (hp.trans (ordD_perm t).symm) hb (ordD_pw t)
theorem testAt_mem {t:DTask}{k:Nat}(h:k<t.tests.length):testAt t k∈t.tests:=by
 unfold testAt
 rw[List.getD_eq_getElem?_getD,List.getElem?_eq_getElem h]
 exact List.getElem_mem h
def ofDay (t:DTask)(i:Nat):List Nat:=(ordD t).filter fun k=>decide ((testAt t k).day=t.first+i)
def fromD (t:DTask)(i:Nat):List Nat:=(ordD t).filter fun k=>decide (t.first+i<=(testAt t k).day)
theorem filter_split {t:DTask}{l:List Nat}(hp:l.Pairwise (dayLt t))(i:Nat):l.filter (fun k=>decide (t.first+i<=(testAt t k).day))=l.filter (fun k=>decide ((testAt t k).day=t.first+i))++l.filter (fun k=>decide (t.first+(i+1:Nat)<=(testAt t k).day)):=by
 induction l with
 | nil=>rfl
 | cons a l ih =>
  rw[List.pairwise_cons] at hp
  have ih:=ih hp.2
  simp only[List.filter_cons]
  by_cases h1:(testAt t a).day=t.first+i
  ·rw[if_pos (by rw[decide_eq_true_eq];omega),if_pos (by rw[decide_eq_true_eq];exact h1),if_neg (by rw[decide_eq_true_eq];omega),ih]
   rfl
  ·by_cases h2:t.first+i<=(testAt t a).day
   ·rw[if_pos (by rw[decide_eq_true_eq];exact h2),if_neg (by rw[decide_eq_true_eq];exact h1),if_pos (by rw[decide_eq_true_eq];omega),ih]
    have hn:l.filter (fun k=>decide ((testAt t k).day=t.first+i))=[]:=by
     rw[List.filter_eq_nil_iff]
     intro b hb
     have:=hp.1 b hb
     unfold dayLt at this
     rw[decide_eq_true_eq]
     omega
    rw[hn];rfl
   ·rw[if_neg (by rw[decide_eq_true_eq];exact h2),if_neg (by rw[decide_eq_true_eq];exact h1),if_neg (by rw[decide_eq_true_eq];omega),ih]
theorem fromD_split (t:DTask)(i:Nat):fromD t i=ofDay t i++fromD t (i+1):=filter_split (ordD_pw t) i
theorem fromD_zero {t:DTask}(h:DOk t):fromD t 0=ordD t:=by
 unfold fromD
 rw[List.filter_eq_self]
 intro k hk
 have:=(h.tests _ (testAt_mem (mem_ordD.1 hk))).d0
 rw[decide_eq_true_eq];omega
structure KSt where
 now:Sp
 good:List Nat
 bad:List Nat
def keepT (t:DTask)(k:Nat):Sp:=keepS t.rule.grades (testAt t k)
def tryD (t:DTask)(st:KSt)(k:Nat):KSt :=
 if (meetS st.now (keepT t k)).lo<=(meetS st.now (keepT t k)).hi then ⟨meetS st.now (keepT t k),st.good++[k],st.bad⟩ else ⟨st.now,st.good,st.bad++[k]⟩
def stepD (t:DTask)(st:KSt)(i:Nat):KSt:=(ofDay t i).foldl (tryD t) st
def morn (t:DTask)(st:KSt)(i:Nat):KSt:=⟨growS t.rule (forceAt t i) st.now,st.good,st.bad⟩
def preD (t:DTask):Nat->KSt
 | 0=>⟨t.start,[],[]⟩
 | i+1=>morn t (stepD t (preD t i) i) i
def stD (t:DTask)(i:Nat):KSt:=stepD t (preD t i) i
def fwdS (t:DTask)(i:Nat):Sp:=(stD t i).now
theorem grow_ok {r:DRule}{s n:Sp}(hr:RuleOk r)(hs:Strong s)(hn:SpOk n):SpOk (growS r s n):=by
 have h1:=hn.lo;have h2:=hn.le;have h3:=hn.hi
 have a:=least_most hr hs (n:=n.lo) h1 (by omega)
 have b:=most_mono hr hs (n:=n.lo) (m:=n.hi) h1 h2 h3
 have c:=least_most hr hs (n:=n.hi) (by omega) h3
 refine⟨?_,?_,c.2.2⟩
 ·show 0<=leastS r s n.lo;omega
 ·show leastS r s n.lo<=mostS r s n.hi;omega
theorem force_ok {t:DTask}(h:DOk t){i:Nat}(hi:i<t.days.length):Strong (forceAt t i):=by
 unfold forceAt
 rw[List.getD_eq_getElem?_getD,List.getElem?_eq_getElem hi]
 exact strong_ok h.rule (h.days _ (List.getElem_mem hi))
theorem tries (t:DTask):∀(l:List Nat)(st:KSt),SpOk st.now->SpOk (l.foldl (tryD t) st).now/\st.now.lo<=(l.foldl (tryD t) st).now.lo/\(l.foldl (tryD t) st).now.hi<=st.now.hi ∧
  ∃N,N.Sublist l/\(l.foldl (tryD t) st).good=st.good++N/\(l.foldl (tryD t) st).now=N.foldl (fun n k=>meetS n (keepT t k)) st.now
 | [],st,h=>⟨h,Int.le_refl _,Int.le_refl _,[],List.Sublist.slnil,(List.append_nil _).symm,rfl⟩
 | k::l,st,h=>by
  rw[List.foldl_cons]
  have h0:=h.lo;have h1:=h.le;have h2:=h.hi
  by_cases c:(meetS st.now (keepT t k)).lo<=(meetS st.now (keepT t k)).hi
  ·have e:tryD t st k=⟨meetS st.now (keepT t k),st.good++[k],st.bad⟩:=if_pos c
   rw[e]
   have m1:st.now.lo<=(meetS st.now (keepT t k)).lo:=Int.le_max_left _ _
   have m2:(meetS st.now (keepT t k)).hi<=st.now.hi:=Int.min_le_left _ _
   obtain⟨g1,g2,g3,N,g4,g5,g6⟩:=tries t l ⟨meetS st.now (keepT t k),st.good++[k],st.bad⟩ ⟨(show 0<=(meetS st.now (keepT t k)).lo by omega),c,(show (meetS st.now (keepT t k)).hi<=1000000 by omega)⟩
   exact⟨g1,Int.le_trans m1 g2,Int.le_trans g3 m2,k::N,g4.cons_cons k,by rw[g5];simp,g6⟩
  ·have e:tryD t st k=⟨st.now,st.good,st.bad++[k]⟩:=if_neg c
   rw[e]
   obtain⟨g1,g2,g3,N,g4,g5,g6⟩:=tries t l ⟨st.now,st.good,st.bad++[k]⟩ h
   exact⟨g1,g2,g3,N,g4.cons k,g5,g6⟩
theorem pre_ok {t:DTask}(h:DOk t):∀{i:Nat},i<=t.days.length->SpOk (preD t i).now
 | 0,_=>h.start
 | i+1,hi=>grow_ok h.rule (force_ok h (by omega)) (tries t _ _ (pre_ok h (by omega))).1
theorem fwd_ok {t:DTask}(h:DOk t){i:Nat}(hi:i<=t.days.length):SpOk (fwdS t i):=(tries t _ _ (pre_ok h hi)).1
theorem fwd_in {t:DTask}(h:DOk t){i:Nat}(hi:i<t.days.length):(growS t.rule (forceAt t i) (fwdS t i)).lo<=(fwdS t (i+1)).lo/\(fwdS t (i+1)).hi<=(growS t.rule (forceAt t i) (fwdS t i)).hi:=by
 obtain⟨_,g1,g2,_⟩:=tries t (ofDay t (i+1)) (preD t (i+1)) (pre_ok h hi)
 exact⟨g1,g2⟩
structure BackOf (r:DRule)(s a b c:Sp):Prop where
 lo1:a.lo<=c.lo
 lo2:b.lo<=mostS r s c.lo
 lo3:∀n,a.lo<=n->n<c.lo->mostS r s n<b.lo
 hi1:c.hi<=a.hi
 hi2:leastS r s c.hi<=b.hi
 hi3:∀n,c.hi<n->n<=a.hi->b.hi<leastS r s n
theorem BackOf.uniq {r:DRule}{s a b c d:Sp}(h:BackOf r s a b c)(g:BackOf r s a b d):c=d:=by
 obtain⟨cl,ch⟩:=c
 obtain⟨dl,dh⟩:=d
 have e1:cl=dl:=by
  rcases Int.lt_trichotomy cl dl with x|x|x
  ·have:=g.lo3 cl h.lo1 x;have:=h.lo2;simp only at this;omega
  ·exact x
  ·have:=h.lo3 dl g.lo1 x;have:=g.lo2;simp only at this;omega
 have e2:ch=dh:=by
  rcases Int.lt_trichotomy ch dh with x|x|x
  ·have:=h.hi3 dh x g.hi1;have:=g.hi2;simp only at this;omega
  ·exact x
  ·have:=g.hi3 ch x h.hi1;have:=h.hi2;simp only at this;omega
 rw[e1,e2]
theorem BackOf.ok {r:DRule}{s a b c:Sp}(h:BackOf r s a b c)(hr:RuleOk r)(hs:Strong s)(ha:SpOk a)(hb:SpOk b)(h1:(growS r s a).lo<=b.lo)(h2:b.hi<=(growS r s a).hi):SpOk c:=by
 have a1:=ha.lo;have a2:=ha.le;have a3:=ha.hi;have b2:=hb.le
 replace h1:leastS r s a.lo<=b.lo:=h1
 replace h2:b.hi<=mostS r s a.hi:=h2
 have l1:=h.lo1;have l2:=h.lo2;have u1:=h.hi1;have u2:=h.hi2
 have cla:c.lo<=a.hi:=Classical.byContradiction fun hn=>by
  have:=h.lo3 a.hi a2 (by omega)
  omega
 have key:leastS r s c.lo<=b.hi:=by
  by_cases e:c.lo=a.lo
  ·rw[e];omega
  ·have h3:=h.lo3 (c.lo-1) (by omega) (by omega)
   have h4:=no_gap hr hs (n:=c.lo-1) (by omega) (by omega)
   rw[Int.sub_add_cancel] at h4
   omega
 refine⟨by omega,Classical.byContradiction fun hn=>?_,by omega⟩
 have:=h.hi3 c.lo (by omega) cla
 omega
structure BackL (t:DTask)(f:Nat->Sp)(i:Nat):Prop where
 last:f t.days.length=fwdS t t.days.length
 back:∀j,i<=j->j<t.days.length->BackOf t.rule (forceAt t j) (fwdS t j) (f (j+1)) (f j)
theorem BackL.ok {t:DTask}{f:Nat->Sp}{i:Nat}(h:BackL t f i)(hD:DOk t):∀(k:Nat),k<=t.days.length->i+k<=t.days.length->SpOk (f (t.days.length-k))/\(fwdS t (t.days.length-k)).lo<=(f (t.days.length-k)).lo/\(f (t.days.length-k)).hi<=(fwdS t (t.days.length-k)).hi
 | 0,_,_=>by rw[Nat.sub_zero,h.last];exact⟨fwd_ok hD (Nat.le_refl _),Int.le_refl _,Int.le_refl _⟩
 | k+1,hk,hi=>by
  obtain⟨g1,g2,g3⟩:=h.ok hD k (by omega) (by omega)
  have hb:=h.back (t.days.length-(k+1)) (by omega) (by omega)
  have hw:=fwd_in hD (i:=t.days.length-(k+1)) (by omega)
  rw[show t.days.length-(k+1)+1=t.days.length-k by omega] at hb hw
  exact⟨hb.ok hD.rule (force_ok hD (by omega)) (fwd_ok hD (by omega)) g1 (Int.le_trans hw.1 g2) (Int.le_trans g3 hw.2),hb.lo1,hb.hi1⟩
theorem BackL.ok' {t:DTask}{f:Nat->Sp}{i j:Nat}(h:BackL t f i)(hD:DOk t)(hj:i<=j)(hj2:j<=t.days.length):SpOk (f j)/\(fwdS t j).lo<=(f j).lo/\(f j).hi<=(fwdS t j).hi:=by
 have:=h.ok hD (t.days.length-j) (by omega) (by omega)
 rwa [show t.days.length-(t.days.length-j)=j by omega] at this
theorem BackL.uniq {t:DTask}{f g:Nat->Sp}(h:BackL t f 0)(h':BackL t g 0):∀(k:Nat),k<=t.days.length->f (t.days.length-k)=g (t.days.length-k)
 | 0,_=>by rw[Nat.sub_zero,h.last,h'.last]
 | k+1,hk=>by
  have ih:=h.uniq h' k (by omega)
  have h1:=h.back (t.days.length-(k+1)) (by omega) (by omega)
  have h2:=h'.back (t.days.length-(k+1)) (by omega) (by omega)
  rw[show t.days.length-(k+1)+1=t.days.length-k by omega] at h1 h2
  rw[ih] at h1
  exact h1.uniq h2
def knownL (t:DTask)(f:Nat->Sp):List Sp:=(List.range (t.days.length+1)).map f
theorem BackL.same {t:DTask}{f g:Nat->Sp}(h:BackL t f 0)(h':BackL t g 0):knownL t f=knownL t g:=by
 unfold knownL
 refine List.map_congr_left fun i hi=>?_
 have hi:=List.mem_range.1 hi
 have:=h.uniq h' (t.days.length-i) (by omega)
 rwa [show t.days.length-(t.days.length-i)=i by omega] at this
structure TSt where
 now:Sp
 at':Nat
 good:List Nat
 bad:List Nat
def dayN (t:DTask)(k:Nat):Nat:=((testAt t k).day-t.first).toNat
def takeD (t:DTask)(st:TSt)(k:Nat):TSt :=
 let n:=onS t st.now st.at' (dayN t k-st.at')
 if (meetS n (keepT t k)).lo<=(meetS n (keepT t k)).hi then ⟨meetS n (keepT t k),dayN t k,st.good++[k],st.bad⟩ else ⟨n,dayN t k,st.good,st.bad++[k]⟩
structure Like (t:DTask)(i:Nat)(a:KSt)(b:TSt):Prop where
 at':b.at'<=i
 now:onS t b.now b.at' (i-b.at')=a.now
 good:b.good=a.good
 bad:b.bad=a.bad
theorem ofDay_N {t:DTask}{i k:Nat}(h:k∈ofDay t i):dayN t k=i:=by
 have:=of_decide_eq_true (List.mem_filter.1 h).2
 unfold dayN
 omega
def goodOf (t:DTask)(G:List Nat)(i:Nat):List Nat:=G.filter fun k=>decide ((testAt t k).day-t.first=i)
def recS (t:DTask)(G:List Nat):Nat->Sp
 | 0=>(goodOf t G 0).foldl (fun n k=>meetS n (keepT t k)) t.start
 | i+1=>(goodOf t G (i+1)).foldl (fun n k=>meetS n (keepT t k)) (growS t.rule (forceAt t i) (recS t G i))
theorem goods {t:DTask}(h:DOk t):∀{j:Nat},j<=t.days.length->(∀k∈(stD t j).good,dayN t k<=j/\k<t.tests.length)/\∀i,i<=j->fwdS t i=(goodOf t (stD t j).good i).foldl (fun n k=>meetS n (keepT t k)) (preD t i).now
 | 0,hj=>by
  obtain⟨_,_,_,N,g4,g5,g6⟩:=tries t (ofDay t 0) (preD t 0) (pre_ok h hj)
  have g5:(stD t 0).good=N:=g5
  rw[g5]
  refine⟨fun k hk=>⟨by rw[ofDay_N (g4.subset hk)];exact Nat.le_refl _,mem_ordD.1 (List.mem_filter.1 (g4.subset hk)).1⟩,fun i hi=>?_⟩
  have:i=0:=by omega
  subst this
  have e:goodOf t N 0=N:=List.filter_eq_self.2 fun k hk=>by
   have:=of_decide_eq_true (List.mem_filter.1 (g4.subset hk)).2
   rw[decide_eq_true_eq];omega
  rw[e];exact g6
 | j+1,hj=>by
  obtain⟨i1,i2⟩:=goods h (j:=j) (by omega)
  obtain⟨_,_,_,N,g4,g5,g6⟩:=tries t (ofDay t (j+1)) (preD t (j+1)) (pre_ok h hj)
  have g5:(stD t (j+1)).good=(stD t j).good++N:=g5
  rw[g5]
  refine⟨fun k hk=>?_,fun i hi=>?_⟩
  ·rcases List.mem_append.1 hk with g|g
   ·have:=i1 k g;omega
   ·exact⟨by rw[ofDay_N (g4.subset g)];exact Nat.le_refl _,mem_ordD.1 (List.mem_filter.1 (g4.subset g)).1⟩
  ·unfold goodOf
   rw[List.filter_append]
   by_cases e:i=j+1
   ·subst e
    have e1:(stD t j).good.filter (fun k=>decide ((testAt t k).day-t.first=((j+1:Nat):Int)))=[]:=by
     rw[List.filter_eq_nil_iff]
     intro k hk
     have:=(i1 k hk).1
     unfold dayN at this
     rw[decide_eq_true_eq];omega
    have e2:N.filter (fun k=>decide ((testAt t k).day-t.first=((j+1:Nat):Int)))=N:=List.filter_eq_self.2 fun k hk=>by
     have:=of_decide_eq_true (List.mem_filter.1 (g4.subset hk)).2
     rw[decide_eq_true_eq];omega
    rw[e1,e2,List.nil_append];exact g6
   ·have e2:N.filter (fun k=>decide ((testAt t k).day-t.first=((i:Nat):Int)))=[]:=by
     rw[List.filter_eq_nil_iff]
     intro k hk
     have:=of_decide_eq_true (List.mem_filter.1 (g4.subset hk)).2
     rw[decide_eq_true_eq];omega
    rw[e2,List.append_nil]
    exact i2 i (by omega)
end Go.Dw
/- D3: decay: any course that keeps to the tests that are taken lies in what is known; when a reel is lost; with no program in sight. -/
namespace Go.Dw
open Go Go.Dx Go.Proofs
def inS (n:Int)(s:Sp):Prop:=s.lo<=n/\n<=s.hi
structure Course (t:DTask)(c:Nat->Int):Prop where
 start:inS (c 0) t.start
 next:∀i,i<t.days.length->leastS t.rule (forceAt t i) (c i)<=c (i+1)/\c (i+1)<=mostS t.rule (forceAt t i) (c i)
def gradeOf (g:List Int)(n:Int):Int:=((g.filter fun x=>decide (x<=n)).length:Nat)
def lostLo (lost:Int)(first:Int):List Sp->Int
 | []=>-1
 | s::l=>if lost<=s.hi then first else lostLo lost (first+1) l
def lostHi (lost:Int)(first:Int):List Sp->Int
 | []=>-1
 | s::l=>if lost<=s.lo then first else lostHi lost (first+1) l
theorem lostLo_at {lost:Int}:∀{l:List Sp}{first:Int},(∀(i:Nat)(h:i<l.length),l[i].hi<lost)/\lostLo lost first l = -1\/∃(i:Nat)(h:i<l.length),lostLo lost first l=first+i/\lost<=l[i].hi/\∀(j:Nat)(hj:j<i),(l[j]'(by omega)).hi<lost
 | [],_=>.inl ⟨fun _ h=>absurd h (Nat.not_lt_zero _),rfl⟩
 | s::l,first=>by
  by_cases c:lost<=s.hi
  ·refine .inr ⟨0,by simp,?_,c,fun j hj=>absurd hj (Nat.not_lt_zero _)⟩
   rw[lostLo,if_pos c];simp
  ·rw[lostLo,if_neg c]
   rcases lostLo_at (lost:=lost) (l:=l) (first:=first+1) with ⟨h1,h2⟩|⟨i,hi,h1,h2,h3⟩
   ·refine .inl ⟨fun i hi=>?_,h2⟩
    match i,hi with
    | 0,_=>simp only[List.getElem_cons_zero];omega
    | i+1,hi=>simp only[List.getElem_cons_succ];exact h1 i (by simpa using hi)
   ·refine .inr ⟨i+1,by simpa using hi,by rw[h1];omega,by simpa using h2,fun j hj=>?_⟩
    match j,hj with
    | 0,_=>simp only[List.getElem_cons_zero];omega
    | j+1,hj=>simp only[List.getElem_cons_succ];exact h3 j (by omega)
end Go.Dw
