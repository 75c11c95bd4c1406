/- J1: what Judge and Accept answer (chapter 04), with no program in sight. -/
import Derived.Test.YtcjmpdpgfmjcgaaGreatDoorMG5
namespace Go.Dw
open Go Go.Dx Go.Proofs
structure Valid (t:Task):Prop where
 f0:0<=t.first
 f1:t.first<=80000
 d0:1<=t.days
 d1:t.days<=60
 last:t.first+t.days-1<=80000
 m0:1<=t.machines.length
 m1:t.machines.length<=4
 r1:t.reels.length<=24
 ms:∀m∈t.machines,(m.places.length:Int)=t.days/\∀n∈m.places,0<=n/\n<=20
 rs:∀r∈t.reels,r.machines≠[]/\(∀n∈r.machines,0<=n/\n<t.machines.length)/\desc r.machines=false/\(t.first<=r.ready/\r.ready<=r.due/\r.due<=t.first+t.days-1)/\1<=r.risk/\r.risk<=1000000
def errS (t:Task):Int:=(checkS t).2.2
theorem goM_e {t:Task}:∀{l:List Mach}{i:Nat}{b:List (List UInt8)}{x:Int×Int×Int},goM t i b l=some x->x.2.2≠0
 | [],_,_,_,h=>by cases h
 | m::l,i,b,x,h=>by
  unfold goM at h
  split at h
  ·rename_i h1;cases h;exact h1
  ·split at h
   ·rename_i h1;cases h;exact h1
   ·exact goM_e h
theorem goM_none {t:Task}:∀{l:List Mach}{i:Nat}{b:List (List UInt8)},goM t i b l=none->∀m∈l,machErr t m=0
 | [],_,_,_,_,hm=>by cases hm
 | m::l,i,b,h,x,hx=>by
  unfold goM at h
  split at h
  ·cases h
  ·split at h
   ·cases h
   ·rename_i h1
    rcases List.mem_cons.1 hx with e|g
    ·rw[e];exact Classical.not_not.1 h1
    ·exact goM_none h x g
theorem goR_e {t:Task}:∀{l:List Reel}{i:Nat}{b:List (List UInt8)}{x:Int×Int×Int},goR t i b l=some x->x.2.2≠0
 | [],_,_,_,h=>by cases h
 | m::l,i,b,x,h=>by
  unfold goR at h
  split at h
  ·rename_i h1;cases h;exact h1
  ·split at h
   ·rename_i h1;cases h;exact h1
   ·exact goR_e h
theorem goR_none {t:Task}:∀{l:List Reel}{i:Nat}{b:List (List UInt8)},goR t i b l=none->∀m∈l,reelErr t m=0
 | [],_,_,_,_,hm=>by cases hm
 | m::l,i,b,h,x,hx=>by
  unfold goR at h
  split at h
  ·cases h
  ·split at h
   ·cases h
   ·rename_i h1
    rcases List.mem_cons.1 hx with e|g
    ·rw[e];exact Classical.not_not.1 h1
    ·exact goR_none h x g
theorem machErr_zero {t:Task}{m:Mach}(h:machErr t m=0):(m.places.length:Int)=t.days/\∀n∈m.places,0<=n/\n<=20:=by
 unfold machErr at h
 split at h
 ·cases h
 ·rename_i h1
  split at h
  ·cases h
  ·rename_i h2
   refine⟨Classical.not_not.1 h1,fun n hn=>?_⟩
   rw[Bool.not_eq_true,List.any_eq_false] at h2
   have:=h2 n hn
   simp at this
   omega
theorem reelErr_zero {t:Task}{r:Reel}(h:reelErr t r=0):r.machines≠[]/\(∀n∈r.machines,0<=n/\n<t.machines.length)/\desc r.machines=false/\(t.first<=r.ready/\r.ready<=r.due/\r.due<=t.first+t.days-1)/\1<=r.risk/\r.risk<=1000000:=by
 unfold reelErr at h
 split at h
 ·cases h
 ·rename_i h1
  split at h
  ·cases h
  ·rename_i h2
   split at h
   ·cases h
   ·rename_i h3
    split at h
    ·cases h
    ·rename_i h4
     refine⟨h1,fun n hn=>?_,by simpa using h3,by omega,by omega⟩
     rw[Bool.not_eq_true,List.any_eq_false] at h2
     have:=h2 n hn
     simp at this
     omega
theorem valid_of {t:Task}(h:errS t=0):Valid t:=by
 unfold errS checkS at h
 split at h
 ·cases h
 ·rename_i h1
  split at h
  ·cases h
  ·rename_i h2
   split at h
   ·rename_i x hx;exact absurd h (goM_e hx)
   ·rename_i hM
    split at h
    ·rename_i x hx;exact absurd h (goR_e hx)
    ·rename_i hR
     exact⟨by omega,by omega,by omega,by omega,by omega,by omega,by omega,by omega,fun m hm=>machErr_zero (goM_none hM m hm),fun r hr=>reelErr_zero (goR_none hR r hr)⟩
structure Turn where
 reel:Int
 machine:Int
 day:Int
def noReel:Reel:=⟨[],[],0,0,0⟩
def noMach:Mach:=⟨[],[]⟩
def reelAt (t:Task)(i:Int):Reel:=t.reels.getD i.toNat noReel
def capT (t:Task)(m d:Int):Int:=(t.machines.getD m.toNat noMach).places.getD (d-t.first).toNat 0
def argB (t:Task):Int->List Turn->Bool
 | _,[]=>false
 | b,x::l=>if (x.reel<b+1\/(t.reels.length:Int)-1<x.reel)\/(x.machine<0\/(t.machines.length:Int)-1<x.machine) then true else argB t x.reel l
def placeOk (t:Task)(x:Turn):Bool:=decide (x.machine∈(reelAt t x.reel).machines/\(reelAt t x.reel).ready<=x.day/\x.day<=(reelAt t x.reel).due)
def cntT (l:List Turn)(m d:Int):Nat:=(l.filter fun x=>decide (x.machine=m/\x.day=d)).length
def fullB (t:Task)(l:List Turn):Bool:=l.any fun x=>decide (capT t x.machine x.day<cntT l x.machine x.day)
def judgedS (t:Task)(l:List Turn):Int:=if argB t (-1) l=true then 2 else if (l.all (placeOk t))=false then 140 else if fullB t l=true then 141 else 0
def leftGo (done:List Int):Nat->List Reel->Int
 | _,[]=>0
 | i,r::rs=>(if (i:Int)∈done then 0 else r.risk)+leftGo done (i+1) rs
def leftS (t:Task)(l:List Turn):Int:=leftGo (l.map Turn.reel) 0 t.reels
def judgeS (t:Task)(l:List Turn):Int×Int:=if errS t≠0 then (0,errS t) else if judgedS t l≠0 then (0,judgedS t l) else (leftS t l,0)
theorem cntT_append (a b:List Turn)(m d:Int):cntT (a++b) m d=cntT a m d+cntT b m d:=by simp[cntT]
theorem cntT_one (x:Turn)(m d:Int):cntT [x] m d=if x.machine=m/\x.day=d then 1 else 0:=by
 unfold cntT
 by_cases h:x.machine=m/\x.day=d
 ·simp[h]
 ·rw[if_neg h,List.filter_cons,if_neg (by simpa using h)];rfl
end Go.Dw
