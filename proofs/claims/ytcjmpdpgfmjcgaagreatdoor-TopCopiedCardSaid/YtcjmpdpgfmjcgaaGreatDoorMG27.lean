/- FA: RescueInTime: its contract, for any task, course, last day and margin. -/
import Derived.Test.YtcjmpdpgfmjcgaaGreatDoorMG2
import Derived.Test.YtcjmpdpgfmjcgaaGreatDoorMG24
import Derived.Test.YtcjmpdpgfmjcgaaGreatDoorMG26
import Derived.Test.YtcjmpdpgfmjcgaaGreatDoorMG21
import Derived.Test.YtcjmpdpgfmjcgaaGreatDoorMG15
namespace Go.Dw
open Go Go.Dx Go.Proofs
set_option maxRecDepth 100000
def tkB (B:List (Nat×Int))(i k:Nat):Bool:=(B.take k).all fun x=>decide (x.1≠i)
def condT (t:DTask)(l:List Int)(k:Nat):Prop:=gradeOf t.rule.grades (l.getD (dayN t k) 0)-(testAt t k).grade<=(testAt t k).error/\(testAt t k).grade-gradeOf t.rule.grades (l.getD (dayN t k) 0)<=(testAt t k).error
end Go.Dw
/- FB: TopCopied with no program in sight. -/
namespace Go.Dw
open Go Go.Dx Go.Proofs Go.Mt
theorem plan_place {t:Task}(hV:Valid t){x:Turn}(hx:x∈turnsG t (keptS t)):∃k:Nat,x.reel=(k:Int)/\∃hk:k<t.reels.length,t.reels[k].ready<=x.day/\x.day<=t.reels[k].due:=by
 have hm:x.reel∈(turnsG t (keptS t)).map Turn.reel:=List.mem_map.2 ⟨x,hx,rfl⟩
 rw[plan_reels hV] at hm
 obtain⟨k,hk,e⟩:=List.mem_map.1 hm
 have hkl:=keptS_lt hk
 obtain⟨_,hp,_⟩:=judged_parts (plan_judged hV)
 have hp:=of_decide_eq_true (hp x hx)
 have hr:reelAt t x.reel=t.reels[k]:=by
  rw[<-e]
  unfold reelAt
  simp[List.getD_eq_getElem?_getD,List.getElem?_eq_getElem hkl]
 rw[hr] at hp
 exact⟨k,e.symm,hkl,hp.2.1,hp.2.2⟩
theorem lateGo_len {t:Task}{l:List Turn}:∀{s:List Lat}{i:Nat}{b:Int},lateGo t l i b s=(0,0)->i+s.length+l.length=t.reels.length
 | [],i,b,h=>by
  unfold lateGo at h
  split at h
  ·simp at h
  ·simp only[List.length_nil];omega
 | x::s,i,b,h=>by
  unfold lateGo at h
  split at h
  ·simp at h
  ·split at h
   ·simp at h
   ·have:=lateGo_len h
    simp only[List.length_cons];omega
theorem plan_sum {t:Task}(hV:Valid t)(h0:errS t=0):(turnsG t (keptS t)).length+(lateL t).length=t.reels.length:=by
 have h:=plan_accepted hV h0
 unfold acceptS at h
 split at h
 ·rename_i hc
  exact absurd (Prod.mk.inj h).2 hc
 ·have:=lateGo_len h
  omega
theorem nameErr_sub {s:List UInt8}{b b':List (List UInt8)}(h:∀x∈b',x∈b)(h0:nameErr s b=0):nameErr s b'=0:=by
 unfold nameErr at h0 ⊢
 split at h0
 ·cases h0
 ·rename_i h1
  rw[if_neg h1]
  split at h0
  ·cases h0
  ·rename_i h2
   rw[if_neg fun hm=>h2 (h s hm)]
theorem namesOk_sub:∀{l' l:List (List UInt8)},l'.Sublist l->∀{b b':List (List UInt8)},(∀x∈b',x∈b)->namesOk b l->namesOk b' l':=by
 intro l' l hs
 induction hs with
 | slnil=>intro b b' _ _;trivial
 | cons a _ ih=>intro b b' hb h;exact ih (fun x hx=>List.mem_append_left _ (hb x hx)) h.2
 | cons_cons a _ ih =>
  intro b b' hb h
  refine⟨nameErr_sub hb h.1,ih (fun x hx=>?_) h.2⟩
  rcases List.mem_append.1 hx with g|g
  ·exact List.mem_append_left _ (hb x g)
  ·exact List.mem_append_right _ g
structure Ent where
 r:Reel
 row:List Value
 x:DTask
 xrow:List Value
 ta:Option Addr
structure EntOk (h0:Heap)(t:Task)(e:Ent):Prop where
 row:ReelAt h0 e.row e.r
 err:reelErr t e.r=0
 fit:e.r.Fit
 xfit:e.x.Fit
 xerr:dErr e.x=0
 first:e.x.first=t.first
 due:∃f d,BackL e.x f 0/\dueS e.x.first e.x.days.length (lostLo e.x.rule.lost e.x.first (knownL e.x f)) (e.x.first+e.x.days.length) 0=(d,0)/\e.r.due<=d
 xrow:∃rr ad cd ct,RuleAt h0 rr e.x.rule/\e.xrow=rr++[i64 e.x.first,.slice ad e.x.days.length cd,i64 e.x.start.lo,i64 e.x.start.hi,.slice e.ta e.x.tests.length ct]/\RowsAt 4 DayR h0 ad e.x.days
def uT (t:Task)(E:List Ent):Task:=⟨t.first,t.days,t.machines,E.map Ent.r⟩
theorem u_noErr {h0:Heap}{t:Task}{E:List Ent}(hE:NoErr t)(ok:∀e∈E,EntOk h0 t e)(hs:(E.map fun e=>e.r.name).Sublist (t.reels.map Reel.name)):NoErr (uT t E):=by
 refine⟨hE.first,hE.days,hE.last,hE.ms,?_,hE.mn,fun m hm=>hE.me m hm,?_,fun r hr=>?_⟩
 ·have h1:=hs.length_le
  have h2:=hE.rs
  simp only[List.length_map] at h1
  show (E.map Ent.r).length<=24
  rw[List.length_map];omega
 ·have e:(uT t E).reels.map Reel.name=E.map fun e=>e.r.name:=by show (E.map Ent.r).map Reel.name=_;rw[List.map_map];rfl
  rw[e]
  exact namesOk_sub hs (fun _ h=>h) hE.rn
 ·obtain⟨e,he,rfl⟩:=List.mem_map.1 hr
  exact (ok e he).err
theorem u_fit {h0:Heap}{t:Task}{E:List Ent}(hF:t.Fit)(ok:∀e∈E,EntOk h0 t e)(hl:E.length<=24):(uT t E).Fit:=by
 refine⟨hF.first,hF.days,hF.ms,?_,hF.msF,fun r hr=>?_⟩
 ·show (E.map Ent.r).length<_
  rw[List.length_map];omega
 ·obtain⟨e,he,rfl⟩:=List.mem_map.1 hr
  exact (ok e he).fit
theorem top_level {h0:Heap}{t:Task}{e:Ent}(ok:EntOk h0 t e){f:Nat->Sp}(hf:BackL e.x f 0){day:Int}(h1:t.first<=day)(h2:day<=e.r.due):∃n:Nat,day-e.x.first=(n:Int)/\n<=e.x.days.length/\(f n).hi<e.x.rule.lost:=by
 obtain⟨g,d,hg,hd,hle⟩:=ok.due
 rw[hg.same hf] at hd
 have hfi:=ok.first
 obtain⟨n,hn⟩:∃n:Nat,day-e.x.first=(n:Int):=⟨(day-e.x.first).toNat,by omega⟩
 obtain⟨l1,l2⟩:=due_level (d_ok ok.xerr) hd (i:=n) (by omega)
 exact⟨n,hn,l1,l2⟩
def shTest (a b:Int)(y:DTest):DTest:=⟨y.day-a+b,y.grade,y.error⟩
def shiftD (first:Int)(x:DTask):DTask:=⟨x.rule,first,x.days,x.start,x.tests.map (shTest x.first first)⟩
theorem shift_fit {x:DTask}{first:Int}(hx:x.Fit)(h0:0<=first)(h1:first<=80000)(f0:0<=x.first)(f1:x.first<=80000)(hd:x.days.length<=400)(ht:∀y∈x.tests,x.first<=y.day/\y.day<=x.first+x.days.length):(shiftD first x).Fit:=by
 refine⟨hx.rule,⟨by show -9223372036854775808<=first;omega,by show first<9223372036854775808;omega⟩,hx.days,hx.daysF,hx.start,?_,fun y hy=>?_⟩
 ·show (x.tests.map (shTest x.first first)).length<_
  rw[List.length_map];exact hx.tests
 ·obtain⟨z,hz,rfl⟩:=List.mem_map.1 hy
  have h2:=ht z hz
  have h3:=hx.testsF z hz
  exact⟨⟨by show -9223372036854775808<=z.day-x.first+first;omega,by show z.day-x.first+first<9223372036854775808;omega⟩,h3.2⟩
def dueR (r:Reel)(d:Int):Reel:=⟨r.name,r.machines,r.ready,min r.due d,r.risk⟩
theorem dueR_ok {t:Task}{r:Reel}{d:Int}(h:reelErr t r=0)(hd:r.ready<=min r.due d):reelErr t (dueR r d)=0:=by
 have e:reelErr t (dueR r d)=if r.machines=[] then 3 else if (r.machines.any fun n=>decide (n<0\/(t.machines.length:Int)-1<n))=true then 4 else if desc r.machines=true then 2
  else if (r.ready<t.first\/t.first+t.days-1<r.ready)\/(min r.due d<r.ready\/t.first+t.days-1<min r.due d)\/(r.risk<1\/1000000<r.risk) then 7 else 0:=rfl
 rw[e]
 unfold reelErr at h
 split at h
 ·cases h
 ·rename_i h1
  rw[if_neg h1]
  split at h
  ·cases h
  ·rename_i h2
   rw[if_neg h2]
   split at h
   ·cases h
   ·rename_i h3
    rw[if_neg h3]
    split at h
    ·cases h
    ·rename_i h4
     rw[if_neg (by omega)]
end Go.Dw
