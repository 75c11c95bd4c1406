/- E8: contracts of decay: the reference's on. -/
import Derived.Test.YtcjmpdpgfmjcgaaGreatDoorMG2
import Derived.Test.YtcjmpdpgfmjcgaaGreatDoorMG19
import Derived.Test.YtcjmpdpgfmjcgaaGreatDoorMG20
import Derived.Test.YtcjmpdpgfmjcgaaGreatDoorMG16
import Derived.Test.YtcjmpdpgfmjcgaaGreatDoorMG7
import Derived.Test.YtcjmpdpgfmjcgaaGreatDoorMG18
namespace Go.Dw
open Go Go.Dx Go.Proofs
set_option maxRecDepth 100000
def DTaskAt (h:Heap)(row:List Value)(t:DTask):Prop:=∃rr ad cd ats ct,RuleAt h rr t.rule/\row=rr++[i64 t.first,.slice ad t.days.length cd,i64 t.start.lo,i64 t.start.hi,.slice ats t.tests.length ct]/\RowsAt 4 DayR h ad t.days/\RowsAt 3 TestR h ats t.tests
theorem DTaskAt.ext {h h':Heap}{row:List Value}{t:DTask}(a:DTaskAt h row t)(he:Ext h h'):DTaskAt h' row t:=by
 obtain⟨rr,ad,cd,ats,ct,h1,e,h2,h3⟩:=a
 exact⟨rr,ad,cd,ats,ct,h1.ext he,e,RowsAt.ext (R:=DayR) (fun x _=>x) h2 he,RowsAt.ext (R:=TestR) (fun x _=>x) h3 he⟩
theorem DayR.at {h:Heap}{a:Option Addr}{l:List DDay}(hl:RowsAt 4 DayR h a l){k:Nat}(hk:k<l.length):∃b o oa,a=some ⟨b,o,oa⟩/\rowAt h b (o+k*4) 4=some [i64 l[k].temp.lo,i64 l[k].temp.hi,i64 l[k].damp.lo,i64 l[k].damp.hi]:=by
 obtain⟨b,o,oa,e,row,h1,rfl⟩:=hl k hk
 exact⟨b,o,oa,e,h1⟩
theorem TestR.at {h:Heap}{a:Option Addr}{l:List DTest}(hl:RowsAt 3 TestR h a l){k:Nat}(hk:k<l.length):∃b o oa,a=some ⟨b,o,oa⟩/\rowAt h b (o+k*3) 3=some [i64 l[k].day,i64 l[k].grade,i64 l[k].error]/\cellAt h b (o+k*3+0)=some (i64 l[k].day)/\cellAt h b (o+k*3+1)=some (i64 l[k].grade)/\cellAt h b (o+k*3+2)=some (i64 l[k].error):=by
 obtain⟨b,o,oa,e,row,h1,rfl⟩:=hl k hk
 exact⟨b,o,oa,e,h1,cell_of_row h1 rfl,cell_of_row h1 rfl,cell_of_row h1 rfl⟩
theorem on_ok {t:DTask}(hD:DOk t):∀{k i:Nat}{n:Sp},SpOk n->i+k<=t.days.length->SpOk (onS t n i k)
 | 0,_,_,h,_=>h
 | k+1,i,n,h,hi=>show SpOk (onS t (growS t.rule (forceAt t i) n) (i+1) k) from on_ok hD (grow_ok hD.rule (force_ok hD (i:=i) (by omega)) h) (by omega)
theorem forceAt_eq {t:DTask}{i:Nat}(hi:i<t.days.length):forceAt t i=strongS t.rule t.days[i]:=by
 unfold forceAt
 rw[List.getD_eq_getElem?_getD,List.getElem?_eq_getElem hi];rfl
end Go.Dw
/- E9: contracts of decay: what is wrong, in the reference: spans, climates, curves. -/
namespace Go.Dw
open Go Go.Dx Go.Proofs
set_option maxRecDepth 100000
end Go.Dw
/- EA: contracts of decay: what is wrong with a rule, in the reference. -/
namespace Go.Dw
open Go Go.Dx Go.Proofs
set_option maxRecDepth 100000
structure DRule.Fit (r:DRule):Prop where
 h1:Len r.heat
 h2:∀p∈r.heat,I64 p.at'/\I64 p.factor
 w1:Len r.wet
 w2:∀p∈r.wet,I64 p.at'/\I64 p.factor
 own:I64 r.own
 feed:I64 r.feed
 gr:∀n∈r.grades,I64 n
 lost:I64 r.lost
end Go.Dw
/- EB: contracts of decay: what is wrong with a task, in the reference. -/
namespace Go.Dw
open Go Go.Dx Go.Proofs
set_option maxRecDepth 100000
structure DTask.Fit (t:DTask):Prop where
 rule:t.rule.Fit
 first:I64 t.first
 days:Len t.days
 daysF:∀d∈t.days,I64 d.temp.lo/\I64 d.temp.hi/\I64 d.damp.lo/\I64 d.damp.hi
 start:I64 t.start.lo/\I64 t.start.hi
 tests:Len t.tests
 testsF:∀x∈t.tests,I64 x.day/\I64 x.grade/\I64 x.error
theorem daysGo_take:∀{l:List DDay}{i:Nat},i<=l.length->(∀d∈l.take i,climErr d=0)->daysGo l=daysGo (l.drop i)
 | _,0,_,_=>rfl
 | d::l,i+1,hi,h=>by
  rw[daysGo,if_neg (fun x=>x (h d (by simp))),List.drop_succ_cons]
  exact daysGo_take (by simpa using hi) fun e he=>h e (by rw[List.take_succ_cons];exact List.mem_cons_of_mem _ he)
end Go.Dw
/- EC: contracts of decay: the reference's order of tests. -/
namespace Go.Dw
open Go Go.Dx Go.Proofs
set_option maxRecDepth 100000
def dayK (t:DTask)(a:Nat):Int:=(testAt t a).day
end Go.Dw
/- ED: contracts of decay: the tests that are taken, in the reference. -/
namespace Go.Dw
open Go Go.Dx Go.Proofs
set_option maxRecDepth 100000
theorem keep_ok {r:DRule}(hR:RuleOk r){g0 g1 g2:Int}(hg:r.grades=[g0,g1,g2]){x:DTest}(q0:0<=x.grade)(q1:x.grade<=3)(q2:0<=x.error)(q3:x.error<=3):SpOk (keepS r.grades x):=by
 have hG:=hR.g1
 have hA:=hR.g2
 rw[hg] at hG hA ⊢
 have G0:=hG g0 (by simp)
 have G1:=hG g1 (by simp)
 have G2:=hG g2 (by simp)
 simp only[List.pairwise_cons,List.mem_cons,List.not_mem_nil,or_false,forall_eq_or_imp,forall_eq] at hA
 obtain⟨⟨a01,a02⟩,a12,_⟩:=hA
 have h3:∀z:Int,0<=z->z<3->[g0,g1,g2].getD z.toNat 0=if z=0 then g0 else if z=1 then g1 else g2:=fun z z0 z1=>by
  rcases (show z=0\/z=1\/z=2 by omega) with e|e|e <;> subst e <;> rfl
 have e1:(keepS [g0,g1,g2] x).lo=if 0<x.grade-x.error then (if x.grade-x.error-1=0 then g0 else if x.grade-x.error-1=1 then g1 else g2) else 0:=by
  unfold keepS
  simp only
  split
  ·rw[h3 _ (by omega) (by omega)]
  ·rfl
 have e2:(keepS [g0,g1,g2] x).hi=if x.grade+x.error<3 then (if x.grade+x.error=0 then g0 else if x.grade+x.error=1 then g1 else g2)-1 else 1000000:=by
  unfold keepS
  simp only
  split
  ·rw[h3 _ (by omega) (by omega)]
  ·rfl
 refine⟨?_,?_,?_⟩
 ·rw[e1];(repeat' split) <;> omega
 ·rw[e1,e2];(repeat' split) <;> omega
 ·rw[e2];(repeat' split) <;> omega
theorem keepT_ok {t:DTask}(hD:DOk t){g0 g1 g2:Int}(hg:t.rule.grades=[g0,g1,g2]){k:Nat}(hk:k<t.tests.length):SpOk (keepT t k):=by
 have:=hD.tests _ (testAt_mem hk)
 exact keep_ok hD.rule hg this.g0 this.g1 this.e0 this.e1
theorem dayN_le {t:DTask}(hD:DOk t){k:Nat}(hk:k<t.tests.length):dayN t k<=t.days.length/\(testAt t k).day-t.first=(dayN t k:Int):=by
 have h:=hD.tests _ (testAt_mem hk)
 have:=h.d0
 have:=h.d1
 unfold dayN
 omega
def runD (t:DTask)(i:Nat):TSt:=((ordD t).take i).foldl (takeD t) ⟨t.start,0,[],[]⟩
structure RunOk (t:DTask)(i:Nat):Prop where
 now:SpOk (runD t i).now
 at1:(runD t i).at'<=t.days.length
 rest:∀j (hj:j<(ordD t).length),i<=j->(runD t i).at'<=dayN t (ordD t)[j]
 good:∀g∈(runD t i).good,g<t.tests.length/\dayN t g<=(runD t i).at'
 len:(runD t i).good.length<=i
end Go.Dw
/- EE: contracts of decay: the tests that are taken, in the reference: the walk. -/
namespace Go.Dw
open Go Go.Dx Go.Proofs
set_option maxRecDepth 100000
theorem testAt_eq {t:DTask}{k:Nat}(h:k<t.tests.length):testAt t k=t.tests[k]:=by
 unfold testAt
 rw[List.getD_eq_getElem?_getD,List.getElem?_eq_getElem h];rfl
end Go.Dw
/- EF: contracts of decay: what is known, in the reference. -/
namespace Go.Dw
open Go Go.Dx Go.Proofs
set_option maxRecDepth 100000
def spC (s:Sp):List Value:=[i64 s.lo,i64 s.hi]
def cellsF (n:Nat)(f:Nat->Sp):List Value:=(List.range n).flatMap fun k=>spC (f k)
theorem cellsF_len (n:Nat)(f:Nat->Sp):(cellsF n f).length=n*2:=by
 unfold cellsF
 induction n with
 | zero=>rfl
 | succ n ih=>rw[List.range_succ,List.flatMap_append,List.length_append,ih];simp[spC];omega
theorem cellsF_succ (n:Nat)(f:Nat->Sp):cellsF (n+1) f=cellsF n f++spC (f n):=by
 unfold cellsF
 rw[List.range_succ,List.flatMap_append];simp
theorem cellsF_congr {n:Nat}{f g:Nat->Sp}(h:∀k,k<n->f k=g k):cellsF n f=cellsF n g:=by
 induction n with
 | zero=>rfl
 | succ n ih=>rw[cellsF_succ,cellsF_succ,ih fun k hk=>h k (by omega),h n (by omega)]
def updS (f:Nat->Sp)(i:Nat)(s:Sp):Nat->Sp:=fun k=>if k=i then s else f k
theorem cellsF_lo {n i:Nat}{f:Nat->Sp}(hi:i<n)(x:Int):(cellsF n f).set (i*2+0) (i64 x)=cellsF n (updS f i ⟨x,(f i).hi⟩):=by
 induction n with
 | zero=>exact absurd hi (Nat.not_lt_zero _)
 | succ n ih =>
  rw[cellsF_succ,cellsF_succ]
  by_cases e:i=n
  ·subst e
   rw[List.set_append_right _ _ (by rw[cellsF_len];omega),cellsF_len,show i*2+0-i*2=0 by omega,cellsF_congr (f:=updS f i ⟨x,(f i).hi⟩) (g:=f) fun k hk=>if_neg (by omega),show updS f i ⟨x,(f i).hi⟩ i=⟨x,(f i).hi⟩ from if_pos rfl]
   rfl
  ·rw[List.set_append_left _ _ (by rw[cellsF_len];omega),ih (by omega)]
   congr 1
   unfold updS
   rw[if_neg (by omega)]
theorem cellsF_hi {n i:Nat}{f:Nat->Sp}(hi:i<n)(x:Int):(cellsF n f).set (i*2+1) (i64 x)=cellsF n (updS f i ⟨(f i).lo,x⟩):=by
 induction n with
 | zero=>exact absurd hi (Nat.not_lt_zero _)
 | succ n ih =>
  rw[cellsF_succ,cellsF_succ]
  by_cases e:i=n
  ·subst e
   rw[List.set_append_right _ _ (by rw[cellsF_len];omega),cellsF_len,show i*2+1-i*2=1 by omega,cellsF_congr (f:=updS f i ⟨(f i).lo,x⟩) (g:=f) fun k hk=>if_neg (by omega),show updS f i ⟨(f i).lo,x⟩ i=⟨(f i).lo,x⟩ from if_pos rfl]
   rfl
  ·rw[List.set_append_left _ _ (by rw[cellsF_len];omega),ih (by omega)]
   congr 1
   unfold updS
   rw[if_neg (by omega)]
theorem cellsF_at {n i:Nat}{f:Nat->Sp}(hi:i<n):(cellsF n f)[i*2]?=some (i64 (f i).lo)/\(cellsF n f)[i*2+1]?=some (i64 (f i).hi):=by
 induction n with
 | zero=>exact absurd hi (Nat.not_lt_zero _)
 | succ n ih =>
  rw[cellsF_succ]
  by_cases e:i=n
  ·subst e
   rw[List.getElem?_append_right (by rw[cellsF_len];omega),List.getElem?_append_right (by rw[cellsF_len];omega),cellsF_len,Nat.sub_self,show i*2+1-i*2=1 by omega]
   exact⟨rfl,rfl⟩
  ·rw[List.getElem?_append_left (by rw[cellsF_len];omega),List.getElem?_append_left (by rw[cellsF_len];omega)]
   exact ih (by omega)
theorem cellsF_cell {h:Heap}{b n i:Nat}{f:Nat->Sp}{el:TypeId}{op:Bool}(hg:h.get b=some (.cells (cellsF n f) el op))(hi:i<n):cellAt h b (0+i*2+0)=some (i64 (f i).lo)/\cellAt h b (0+i*2+1)=some (i64 (f i).hi):=by
 obtain⟨h1,h2⟩:=cellsF_at (f:=f) hi
 exact⟨cellAt_cells hg (by rw[nth_eq,Nat.zero_add];exact h1),cellAt_cells hg (by rw[nth_eq,Nat.zero_add];exact h2)⟩
theorem cellsF_rows {h:Heap}{b:Nat}{f:Nat->Sp}{t:DTask}{el:TypeId}{op:Bool}{sp:Option Nat}(hg:h.get b=some (.cells (cellsF (t.days.length+1) f) el op)):RowsAt 2 SpR h (some ⟨b,0,sp⟩) (knownL t f):=fun i hi=>by
 have hi':i<t.days.length+1:=by unfold knownL at hi;simpa using hi
 have hc:cut (cellsF (t.days.length+1) f) (i*2) 2=some (spC (f i)):=by
  have:=cut_flat (f:=fun k=>spC (f k)) (k:=2) (P:=List.range (t.days.length+1)) (i:=i) (by simpa using hi') fun _ _=>rfl
  rw[List.getElem_range] at this
  exact this
 refine⟨b,0,sp,rfl,_,rowAt_cells hg (by rw[Nat.zero_add];exact hc),?_⟩
 have e:(knownL t f)[i]=f i:=by simp only[knownL,List.getElem_map,List.getElem_range]
 rw[e];rfl
theorem upd_upd (f:Nat->Sp)(i:Nat)(s u:Sp):updS (updS f i s) i u=updS f i u:=by
 funext k
 unfold updS
 split <;> rfl
theorem updS_at (f:Nat->Sp)(i:Nat)(s:Sp):updS f i s i=s:=if_pos rfl
theorem updS_ne {f:Nat->Sp}{i k:Nat}{s:Sp}(h:k≠i):updS f i s k=f k:=if_neg h
def baseM (t:DTask)(G:List Nat)(i:Nat):Sp:=if i=0 then t.start else growS t.rule (forceAt t (i-1)) (recS t G (i-1))
def midM (t:DTask)(G:List Nat)(i k:Nat):Sp:=(goodOf t (G.take k) i).foldl (fun n k=>meetS n (keepT t k)) (baseM t G i)
end Go.Dw
/- EG: contracts of decay: what is known, in the reference: the walk. -/
namespace Go.Dw
open Go Go.Dx Go.Proofs
set_option maxRecDepth 100000
end Go.Dw
/- EH: contracts of decay: Levels, Lost and Due, in the reference. -/
namespace Go.Dw
open Go Go.Dx Go.Proofs
set_option maxRecDepth 100000
def LevR (t:DTask)(h:Heap)(v:Value):Prop:=(dErr t≠0/\v=.tuple ⟨[.slice none 0 0,.slice none 0 0,i64 (dErr t)]⟩)\/(dErr t=0/\∃a v5 f,v=.tuple ⟨[.slice a (t.days.length+1) (t.days.length+1),v5,i64 0]⟩/\RowsAt 2 SpR h a (knownL t f)/\BackL t f 0)
def LostR (t:DTask)(v:Value):Prop:=(dErr t≠0/\v=.tuple ⟨[spV ⟨0,0⟩,i64 (dErr t)]⟩)\/(dErr t=0/\∃f,BackL t f 0/\v=.tuple ⟨[spV ⟨lostLo t.rule.lost t.first (knownL t f),lostHi t.rule.lost t.first (knownL t f)⟩,i64 0]⟩)
theorem SpR.at {h:Heap}{a:Option Addr}{l:List Sp}(hl:RowsAt 2 SpR h a l){k:Nat}(hk:k<l.length):∃b o oa,a=some ⟨b,o,oa⟩/\rowAt h b (o+k*2) 2=some [i64 l[k].lo,i64 l[k].hi]/\cellAt h b (o+k*2+0)=some (i64 l[k].lo)/\cellAt h b (o+k*2+1)=some (i64 l[k].hi):=by
 obtain⟨b,o,oa,e,row,h1,rfl⟩:=hl k hk
 exact⟨b,o,oa,e,h1,cell_of_row h1 rfl,cell_of_row h1 rfl⟩
theorem lostLo_rng {lost:Int}:∀{l:List Sp}{first:Int},0<=first->lostLo lost first l = -1\/(first<=lostLo lost first l/\lostLo lost first l<first+l.length)
 | [],_,_=>.inl rfl
 | s::l,first,h0=>by
  rw[lostLo]
  split
  ·exact .inr ⟨Int.le_refl _,by simp;omega⟩
  ·rcases lostLo_rng (lost:=lost) (l:=l) (first:=first+1) (by omega) with g|g
   ·exact .inl g
   ·exact .inr ⟨by omega,by simp;omega⟩
theorem knownL_len (t:DTask)(f:Nat->Sp):(knownL t f).length=t.days.length+1:=by unfold knownL;rw[List.length_map,List.length_range]
end Go.Dw
/- EI: contracts: Due, in the reference. -/
namespace Go.Dw
open Go Go.Dx Go.Proofs
set_option maxRecDepth 100000
def lastS (lo last margin:Int):Int:=if 0<=lo then min last (lo-1-min margin 80000) else last
def dueS (first:Int)(days:Nat)(lo last margin:Int):Int×Int :=
 if (last<first\/first+days<last)\/margin<0 then (0,7) else if lastS lo last margin<first then (0,9) else (lastS lo last margin,0)
def DueR (t:DTask)(last margin:Int)(v:Value):Prop:=(dErr t≠0/\v=.tuple ⟨[i64 0,i64 (dErr t)]⟩)\/(dErr t=0/\∃f,BackL t f 0/\v=.tuple ⟨[i64 (dueS t.first t.days.length (lostLo t.rule.lost t.first (knownL t f)) last margin).1,i64 (dueS t.first t.days.length (lostLo t.rule.lost t.first (knownL t f)) last margin).2]⟩)
theorem DueR.uniq {t:DTask}{last margin:Int}{v w:Value}(h:DueR t last margin v)(g:DueR t last margin w):v=w:=by
 rcases h with ⟨h1,rfl⟩|⟨h1,f,hf,rfl⟩
 ·rcases g with ⟨_,rfl⟩|⟨g1,_⟩
  ·rfl
  ·exact absurd g1 h1
 ·rcases g with ⟨g1,_⟩|⟨_,f',hf',rfl⟩
  ·exact absurd h1 g1
  ·rw[hf.same hf']
end Go.Dw
/- EJ: contracts of decay: what panics with a fault. -/
namespace Go.Dw
open Go Go.Dx Go.Proofs
set_option maxRecDepth 100000
abbrev fauV (p k e:Int):Value:=.iface 150 (.agg ⟨[i64 p,i64 k,i64 e]⟩)
def FR (e:Int)(h:Heap):VS->Prop
 | .ret v h'=>e=0/\v=.tuple ⟨[]⟩/\Ext h h'
 | .pan v h'=>e≠0/\(∃p k,v=fauV p k e)/\Ext h h'
 | _=>False
theorem outD_sv {n lo hi:Int}{b5 b6:Nat}{h:Heap}(hg5:h.get b5=some (.cells [i64 lo] 3 false))(hg6:h.get b6=some (.cells [i64 hi] 3 false)) :
  Sv Tryz.prog 163 [i64 n,ptr b5,ptr b6] h (RetP fun v h'=>v=.bool (decide (n<lo\/hi<n))/\Ext h h'):=by
 refine Sv_enter Tryz.func163 rfl (by rw[Tryz.ntmps163];rfl) ?_;show Wc Tryz.prog ⟨163,13,none⟩ _ _ _ _ _
 refine zz ?_
 refine Wo_dec rfl rfl rfl rfl (A_lss rfl rfl) (fun h1=>?_) (fun h1=>?_)
 ·refine zz ?_
  exact Wc_ret (Lv_ret rfl ⟨by rw[decide_eq_true (.inl h1)];rfl,Ext.refl _⟩)
 ·refine zz ?_
  refine Wo_dec rfl rfl rfl rfl (A_gtr rfl rfl) (fun h2=>?_) (fun h2=>?_)
  ·refine zz ?_
   exact Wc_ret (Lv_ret rfl ⟨by rw[decide_eq_true (.inr h2)];rfl,Ext.refl _⟩)
  ·refine zz ?_
   exact Wc_ret (Lv_ret rfl ⟨by rw[decide_eq_false (fun h=>h.elim h1 h2)];rfl,Ext.refl _⟩)
theorem mustD_sv {p k e lo hi:Int}{a:Option Addr}{c:Nat}{l:List Int}{h:Heap}(hI:IntsAt h a l)(hl:l.length<9223372036854775808)(he:e≠0) :
  Sv Tryz.prog 128 [.agg ⟨[i64 p,i64 k,i64 e]⟩,i64 lo,i64 hi,.slice a l.length c] h (FR (if l.any (fun n=>decide (n<lo\/hi<n))=true then e else 0) h):=by
 refine Sv_enterR Tryz.func128 rfl (by rw[Tryz.ntmps128];rfl) ?_
 show Wc Tryz.prog ⟨128,13,none⟩ _ _ _ _ _
 refine zz ?_
 refine Wo_box rfl rfl rfl fun h1 hE1 hW1 hg4 hn1=>?_
 refine Wo_box rfl rfl rfl fun h2 hE2 hW2 hg5 hn2=>?_
 refine Wo_box rfl rfl rfl fun h3 hE3 hW3 hg6 hn3=>?_
 have hE:=(hE1.trans hE2).trans hE3
 replace hg4:=(hE2.trans hE3).get hg4
 replace hg5:=hE3.get hg5
 refine zz ?_
 refine Wo_callr rfl rfl rfl rfl rfl Bod.h rfl rfl (containsFuncI_sv (g:=163) (first:=[]) (capv:=[ptr h1.nx,ptr h2.nx]) (p:=fun n=>decide (n<lo\/hi<n)) (hI.ext hE) Bod.h (fun h4 hE4 x _=>outD_sv (hE4.get hg5) (hE4.get hg6)) hl) ?_
 rintro _ h4 ⟨rfl,hE4⟩
 have hg44:=hE4.get hg4
 cases hb:l.any fun n=>decide (n<lo\/hi<n)
 ·refine zz ?_
  exact LvR_ret rfl ⟨by simp,rfl,hE.trans hE4⟩
 ·refine zz ?_
  refine Wo_do rfl rfl rfl rfl (A_iface rfl) ?_
  refine Wo_panic rfl rfl ?_
  exact LvR_pan ⟨by simpa using he,⟨p,k,rfl⟩,hE.trans hE4⟩
end Go.Dw
/- EK: contracts of decay: climates, levels, curves: they return, or panic with their fault. -/
namespace Go.Dw
open Go Go.Dx Go.Proofs
set_option maxRecDepth 100000
theorem lit_ints {h:Heap}{b:Nat}{l:List Int}{cs:List Value}{el:TypeId}{op:Bool}(hg:h.get b=some (.cells cs el op))(hc:cs=l.map i64):IntsAt h (some ⟨b,0,none⟩) l:=fun i hi=>by
 subst hc
 exact⟨b,0,none,rfl,cellAt_cells hg (by rw[nth_eq,Nat.zero_add,Nat.mul_one];simp[hi])⟩
theorem FR_ret {b:Bool}{e:Int}{h h':Heap}{v:Value}(he:e≠0)(hr:FR (if b=true then e else 0) h (.ret v h')):b=false/\v=.tuple ⟨[]⟩/\Ext h h':=by
 obtain⟨h1,h2,h3⟩:=hr
 cases b
 ·exact⟨rfl,h2,h3⟩
 ·exact absurd h1 he
theorem FR_pan {b:Bool}{e:Int}{h h':Heap}{v:Value}(hr:FR (if b=true then e else 0) h (.pan v h')):b=true/\(∃p k,v=fauV p k e)/\Ext h h':=by
 obtain⟨h1,h2,h3⟩:=hr
 cases b
 ·exact absurd rfl h1
 ·exact⟨rfl,h2,h3⟩
theorem levelsD_sv {p k e0:Int}{s:Sp}{h:Heap}:Sv Tryz.prog 157 [.agg ⟨[i64 p,i64 k,i64 e0]⟩,spV s] h (FR (spanErr s) h):=by
 refine Sv_wf fun hw=>?_
 refine Sv_enterR Tryz.func157 rfl (by rw[Tryz.ntmps157];rfl) ?_
 show Wc Tryz.prog ⟨157,20,none⟩ _ _ _ _ _
 refine zz ?_
 refine Wo_box rfl rfl rfl fun h1 hE1 hW1 hg2 hn1=>?_
 refine Wo_box rfl rfl rfl fun h2 hE2 hW2 hg3 hn2=>?_
 replace hg2:=hE2.get hg2
 have hq:=hE1.2.1
 replace hE1:=hE1.trans hE2
 have hne:h1.nx≠h.nx:=by omega
 refine zz ?_
 refine Wo_store rfl Tsz.h rfl rfl hg2 rfl rfl rfl fun h3 hU3=>?_
 have hE3:=hU3.ext hE1 hw (Nat.le_refl _)
 replace hg2:=hU3.at'
 replace hg3:=hU3.get hne hg3
 refine Wo_nil ?_
 refine Wc_wf fun hw3=>?_
 refine zz ?_
 refine Wo_bs rfl rfl Und.h Tsz.h Zr.h rfl rfl rfl rfl rfl fun h4 hE4 hW4 hg4 hx4=>?_
 replace hg2:=hE4.get hg2
 replace hg3:=hE4.get hg3
 refine Wo_callG rfl rfl rfl rfl rfl Bod.h rfl rfl (mustD_sv (l:=[s.lo,s.hi]) (lit_ints hg4 rfl) (show (2:Nat)<9223372036854775808 by decide) (by decide)) (fun v h5 hv=>?_) (fun v h5 hv=>?_)
 rotate_left
 ·obtain⟨hb,hx,hE5⟩:=FR_pan hv
  have hb':(s.lo<0\/1000000<s.lo)\/(s.hi<0\/1000000<s.hi):=by simpa using hb
  have e:spanErr s=7:=if_pos hb'
  rw[e]
  exact LvR_pan ⟨by decide,hx,(hE3.trans hE4).trans hE5⟩
 obtain⟨hb,rfl,hE5⟩:=FR_ret (by decide) hv
 have hb':¬((s.lo<0\/1000000<s.lo)\/(s.hi<0\/1000000<s.hi)):=fun hc=>by
  have:([s.lo,s.hi].any fun n=>decide (n<0\/1000000<n))=true:=by simpa using hc
  rw[hb] at this;cases this
 replace hg2:=hE5.get hg2
 replace hg3:=hE5.get hg3
 have hE05:=(hE3.trans hE4).trans hE5
 refine zz ?_
 refine Wo_store rfl Tsz.h rfl rfl hg2 rfl rfl rfl fun h6 hU6=>?_
 have hE6:=hU6.ext hE05 hw (Nat.le_refl _)
 replace hg2:=hU6.at'
 replace hg3:=hU6.get hne hg3
 refine Wo_nil ?_
 refine Wc_wf fun hw6=>?_
 refine zz ?_
 refine Wo_bs rfl rfl Und.h Tsz.h Zr.h rfl rfl rfl rfl rfl fun h7 hE7 hW7 hg7 hx7=>?_
 refine Wo_callG rfl rfl rfl rfl rfl Bod.h rfl rfl (mustD_sv (l:=[s.hi]) (lit_ints hg7 rfl) (show (1:Nat)<9223372036854775808 by decide) (by decide)) (fun v h8 hv=>?_) (fun v h8 hv=>?_)
 rotate_left
 ·obtain⟨hb2,hx,hE8⟩:=FR_pan hv
  have hb2':s.hi<s.lo\/1000000<s.hi:=by simpa using hb2
  have e:spanErr s=2:=(if_neg hb').trans (if_pos (by omega))
  rw[e]
  exact LvR_pan ⟨by decide,hx,(hE6.trans hE7).trans hE8⟩
 obtain⟨hb2,rfl,hE8⟩:=FR_ret (by decide) hv
 have hb2':¬(s.hi<s.lo\/1000000<s.hi):=fun hc=>by
  have:([s.hi].any fun n=>decide (n<s.lo\/1000000<n))=true:=by simpa using hc
  rw[hb2] at this;cases this
 have e:spanErr s=0:=(if_neg hb').trans (if_neg (by omega))
 rw[e]
 refine zz ?_
 exact LvR_ret rfl ⟨rfl,rfl,(hE6.trans hE7).trans hE8⟩
theorem climateD_sv {p k e0:Int}{d:DDay}{h:Heap}:Sv Tryz.prog 156 [.agg ⟨[i64 p,i64 k,i64 e0]⟩,dV d] h (FR (climErr d) h):=by
 refine Sv_wf fun hw=>?_
 refine Sv_enterR Tryz.func156 rfl (by rw[Tryz.ntmps156];rfl) ?_
 show Wc Tryz.prog ⟨156,42,none⟩ _ _ _ _ _
 refine zz ?_
 refine Wo_box rfl rfl rfl fun h1 hE1 hW1 hg2 hn1=>?_
 refine Wo_box rfl rfl rfl fun h2 hE2 hW2 hg3 hn2=>?_
 replace hg2:=hE2.get hg2
 have hq:=hE1.2.1
 replace hE1:=hE1.trans hE2
 have hne:h1.nx≠h.nx:=by omega
 refine zz ?_
 refine Wo_store rfl Tsz.h rfl rfl hg2 rfl rfl rfl fun h3 hU3=>?_
 have hE3:=hU3.ext hE1 hw (Nat.le_refl _)
 replace hg2:=hU3.at'
 replace hg3:=hU3.get hne hg3
 refine Wo_nil ?_
 refine zz ?_
 refine Wo_bs rfl rfl Und.h Tsz.h Zr.h rfl rfl rfl rfl rfl fun k1 hK1 hV1 hgk1 hxk1=>?_
 replace hg2:=hK1.get hg2
 replace hg3:=hK1.get hg3
 refine Wo_callG rfl rfl rfl rfl rfl Bod.h rfl rfl (mustD_sv (l:=[d.temp.lo,d.temp.hi]) (lit_ints hgk1 rfl) (show (2:Nat)<9223372036854775808 by decide) (by decide)) (fun v j1 hv=>?_) (fun v j1 hv=>?_)
 rotate_left
 ·obtain⟨hb,hx,hJ⟩:=FR_pan hv
  have hb':(d.temp.lo < -300\/600<d.temp.lo)\/(d.temp.hi < -300\/600<d.temp.hi):=by simpa using hb
  have e:climErr d=7:=if_pos (by omega)
  rw[e]
  exact LvR_pan ⟨by decide,hx,(hE3.trans hK1).trans hJ⟩
 obtain⟨hb1,rfl,hJ1⟩:=FR_ret (by decide) hv
 have hn1:¬((d.temp.lo < -300\/600<d.temp.lo)\/(d.temp.hi < -300\/600<d.temp.hi)):=fun hc=>by
  have:([d.temp.lo,d.temp.hi].any fun n=>decide (n < -300\/600<n))=true:=by simpa using hc
  rw[hb1] at this;cases this
 replace hg2:=hJ1.get hg2
 replace hg3:=hJ1.get hg3
 have hT1:=(hE3.trans hK1).trans hJ1
 refine zz ?_
 refine Wo_bs rfl rfl Und.h Tsz.h Zr.h rfl rfl rfl rfl rfl fun k2 hK2 hV2 hgk2 hxk2=>?_
 replace hg2:=hK2.get hg2
 replace hg3:=hK2.get hg3
 refine Wo_callG rfl rfl rfl rfl rfl Bod.h rfl rfl (mustD_sv (l:=[d.damp.lo,d.damp.hi]) (lit_ints hgk2 rfl) (show (2:Nat)<9223372036854775808 by decide) (by decide)) (fun v j2 hv=>?_) (fun v j2 hv=>?_)
 rotate_left
 ·obtain⟨hb,hx,hJ⟩:=FR_pan hv
  have hb':(d.damp.lo<0\/1000<d.damp.lo)\/(d.damp.hi<0\/1000<d.damp.hi):=by simpa using hb
  have e:climErr d=7:=if_pos (by omega)
  rw[e]
  exact LvR_pan ⟨by decide,hx,(hT1.trans hK2).trans hJ⟩
 obtain⟨hb2,rfl,hJ2⟩:=FR_ret (by decide) hv
 have hn2:¬((d.damp.lo<0\/1000<d.damp.lo)\/(d.damp.hi<0\/1000<d.damp.hi)):=fun hc=>by
  have:([d.damp.lo,d.damp.hi].any fun n=>decide (n<0\/1000<n))=true:=by simpa using hc
  rw[hb2] at this;cases this
 replace hg2:=hJ2.get hg2
 replace hg3:=hJ2.get hg3
 have hT2:=(hT1.trans hK2).trans hJ2
 refine zz ?_
 refine Wo_store rfl Tsz.h rfl rfl hg2 rfl rfl rfl fun h6 hU6=>?_
 have hE6:=hU6.ext hT2 hw (Nat.le_refl _)
 replace hg2:=hU6.at'
 replace hg3:=hU6.get hne hg3
 refine Wo_nil ?_
 refine zz ?_
 refine Wo_bs rfl rfl Und.h Tsz.h Zr.h rfl rfl rfl rfl rfl fun k3 hK3 hV3 hgk3 hxk3=>?_
 replace hg2:=hK3.get hg2
 replace hg3:=hK3.get hg3
 refine Wo_callG rfl rfl rfl rfl rfl Bod.h rfl rfl (mustD_sv (l:=[d.temp.hi]) (lit_ints hgk3 rfl) (show (1:Nat)<9223372036854775808 by decide) (by decide)) (fun v j3 hv=>?_) (fun v j3 hv=>?_)
 rotate_left
 ·obtain⟨hb,hx,hJ⟩:=FR_pan hv
  have hb':d.temp.hi<d.temp.lo\/600<d.temp.hi:=by simpa using hb
  have e:climErr d=2:=(if_neg (by omega)).trans (if_pos (by omega))
  rw[e]
  exact LvR_pan ⟨by decide,hx,(hE6.trans hK3).trans hJ⟩
 obtain⟨hb3,rfl,hJ3⟩:=FR_ret (by decide) hv
 have hn3:¬(d.temp.hi<d.temp.lo\/600<d.temp.hi):=fun hc=>by
  have:([d.temp.hi].any fun n=>decide (n<d.temp.lo\/600<n))=true:=by simpa using hc
  rw[hb3] at this;cases this
 replace hg2:=hJ3.get hg2
 replace hg3:=hJ3.get hg3
 have hT3:=(hE6.trans hK3).trans hJ3
 refine zz ?_
 refine Wo_bs rfl rfl Und.h Tsz.h Zr.h rfl rfl rfl rfl rfl fun k4 hK4 hV4 hgk4 hxk4=>?_
 replace hg2:=hK4.get hg2
 replace hg3:=hK4.get hg3
 refine Wo_callG rfl rfl rfl rfl rfl Bod.h rfl rfl (mustD_sv (l:=[d.damp.hi]) (lit_ints hgk4 rfl) (show (1:Nat)<9223372036854775808 by decide) (by decide)) (fun v j4 hv=>?_) (fun v j4 hv=>?_)
 rotate_left
 ·obtain⟨hb,hx,hJ⟩:=FR_pan hv
  have hb':d.damp.hi<d.damp.lo\/1000<d.damp.hi:=by simpa using hb
  have e:climErr d=2:=(if_neg (by omega)).trans (if_pos (by omega))
  rw[e]
  exact LvR_pan ⟨by decide,hx,(hT3.trans hK4).trans hJ⟩
 obtain⟨hb4,rfl,hJ4⟩:=FR_ret (by decide) hv
 have hn4:¬(d.damp.hi<d.damp.lo\/1000<d.damp.hi):=fun hc=>by
  have:([d.damp.hi].any fun n=>decide (n<d.damp.lo\/1000<n))=true:=by simpa using hc
  rw[hb4] at this;cases this
 replace hg2:=hJ4.get hg2
 replace hg3:=hJ4.get hg3
 have hT4:=(hT3.trans hK4).trans hJ4
 have e:climErr d=0:=(if_neg (by omega)).trans (if_neg (by omega))
 rw[e]
 refine zz ?_
 exact LvR_ret rfl ⟨rfl,rfl,hT4⟩
end Go.Dw
/- EL: contracts of decay: a curve returns, or panics with its fault. -/
namespace Go.Dw
open Go Go.Dx Go.Proofs
set_option maxRecDepth 100000
theorem zy {A B:Prop}(hk:B)(h:Bx B->A:=by
 intro hk
 repeat (first|(show Wc _ _ _ _ _ _ _;first|refine Wc_seq ?_|refine Wc_region ?_|refine Wc_condT rfl ?_|refine Wc_condF rfl ?_|refine Wc_block ?_|refine Wc_skip ?_|refine Wc_exit ?_|refine Wc_label ?_)|(show Wo _ _ _ [] _ _ _ _;refine Wo_nil ?_)|(show Wo _ _ _ (_::_) _ _ _ _;first|(show Wo _ _ _ (⟨_,_,_,_,_,some _⟩::_) _ _ _ _;refine Wo_off rfl rfl rfl ?_)|(show Wo _ _ _ (⟨_,_,_,_,_,some _⟩::_) _ _ _ _;refine Wo_off0 rfl rfl ?_)|(show Wo _ _ _ (⟨_,.move _,_,_,_,_⟩::_) _ _ _ _;refine Wo_do rfl rfl rfl rfl (A_move rfl) ?_)|(show Wo _ _ _ (⟨_,.build _ _,_,_,_,_⟩::_) _ _ _ _;refine Wo_do rfl rfl rfl rfl (A_build rfl rfl) ?_)|(show Wo _ _ _ (⟨_,.typeAssert _ _ _ _,_,_,_,_⟩::_) _ _ _ _;refine Wo_do rfl rfl rfl rfl (A_assert rfl) ?_)|(show Wo _ _ _ (⟨_,.nilCheck _,_,_,_,_⟩::_) _ _ _ _;refine Wo_do rfl rfl rfl rfl (A_nilCheck rfl) ?_)|(show Wo _ _ _ (⟨_,.assign _,_,_,_,_⟩::_) _ _ _ _;refine Wo_do rfl rfl rfl rfl (A_assign rfl) ?_)|(show Wo _ _ _ (⟨_,.pick _ _ _,_,_,_,_⟩::_) _ _ _ _;refine Wo_do rfl rfl rfl rfl (A_pickT rfl rfl) ?_)|(show Wo _ _ _ (⟨_,.pick _ _ _,_,_,_,_⟩::_) _ _ _ _;refine Wo_do rfl rfl rfl rfl (A_pickF rfl rfl) ?_)|(show Wo _ _ _ (⟨_,.unOp .not _ _,_,_,_,_⟩::_) _ _ _ _;refine Wo_do rfl rfl rfl rfl (A_not rfl) ?_)|(show Wo _ _ _ (⟨_,.makeFunc _ _ _,_,_,_,_⟩::_) _ _ _ _;refine Wo_do rfl rfl rfl rfl (A_mkF rfl rfl) ?_)|(show Wo _ _ _ (⟨_,.extract _ _,_,_,_,_⟩::_) _ _ _ _;refine Wo_do rfl rfl rfl rfl (A_extract rfl rfl) ?_)|(show Wo _ _ _ (⟨_,.fieldAddr _ _ _,_,_,_,_⟩::_) _ _ _ _;refine Wo_do rfl rfl rfl rfl (A_fieldAddr Fof.h rfl) ?_)|(show Wo _ _ _ (⟨_,.load _ _,_,_,_,_⟩::_) _ _ _ _;refine Wo_do rfl rfl rfl rfl (A_ld OneC.h rfl) ?_)|(show Wo _ _ _ (⟨_,.load _ _,_,_,_,_⟩::_) _ _ _ _;refine Wo_do rfl rfl rfl rfl (A_ldr RowC.h rfl) ?_)|(show Wo _ _ _ (⟨_,.call ⟨.builtin .len,_,_⟩,_,_,_,_⟩::_) _ _ _ _;refine Wo_do rfl rfl rfl rfl (A_lenS rfl rfl rfl Und.h rfl) ?_)|(show Wo _ _ _ (⟨_,.call ⟨.builtin .len,_,_⟩,_,_,_,_⟩::_) _ _ _ _;refine Wo_do rfl rfl rfl rfl (A_lenStr rfl rfl rfl Und.h rfl) ?_)|(show Wo _ _ _ (⟨_,.binOp .add _ _ _ _,_,_,_,_⟩::_) _ _ _ _;refine Wo_do rfl rfl rfl rfl (A_ad rfl rfl) ?_)|(show Wo _ _ _ (⟨_,.binOp .sub _ _ _ _,_,_,_,_⟩::_) _ _ _ _;refine Wo_do rfl rfl rfl rfl (A_sb rfl rfl) ?_)))
 exact hk.out):A:=h ⟨hk⟩
section
variable {P:Program}{fr:Fr}{m:Mem}{ds:List ADef}{h:Heap}{ops:Array Oper}{o:Oper}
theorem W1_callG {K Kp:Value->List ADef->Heap->Prop}{c:Call}{f:Operand}{g:FuncId}{first cap args:List Value}{R:VS->Prop}(hg:gk ops.toList m o.guard=some true)(hop:o.op=.call c)(hcal:c.callee=.value f)(hf:opk h m f=some (.func (.func g) ⟨first⟩ ⟨cap⟩))(ha:opkl h m c.args.toList=some args)
  (hb:bodied P g=true) (hv:Sv P g (first++(args++cap)) h R)
  (ht:∀v h1,R (.ret v h1)->K v ds h1) (hn:∀v h1,R (.pan v h1)->Kp v ds h1):W1 P fr ops o m ds h K Kp :=
 W1_call hg hop hcal hf ha hb hv ht hn
end
theorem curveD_sv {w:Int}{a:Option Addr}{c:Nat}{l:List CPt}{lo hi:Int}{h:Heap}(hP:RowsAt 2 PtR h a l)(hF:∀p∈l,I64 p.at'/\I64 p.factor)(hlo:-300<=lo)(hhi:hi<=1000) :
  Sv Tryz.prog 127 [i64 w,.slice a l.length c,i64 lo,i64 hi] h (FR (curveErr lo hi l) h):=by
 refine Sv_enterR Tryz.func127 rfl (by rw[Tryz.ntmps127];rfl) ?_
 show Wc Tryz.prog ⟨127,78,none⟩ _ _ _ _ _
 refine zy ?_
 refine Wo_bs rfl rfl Und.h Tsz.h Zr.h rfl rfl rfl rfl rfl fun h1 hE1 hW1 hg1 hx1=>?_
 refine Wo_callG rfl rfl rfl rfl rfl Bod.h rfl rfl (mustD_sv (l:=[(l.length:Int)]) (lit_ints hg1 rfl) (show (1:Nat)<9223372036854775808 by decide) (by decide)) (fun v h2 hv=>?_) (fun v h2 hv=>?_)
 rotate_left
 ·obtain⟨hb,hx,hE2⟩:=FR_pan hv
  have hb':(l.length:Int)<2\/8<(l.length:Int):=by simpa using hb
  have e:curveErr lo hi l=3:=if_pos hb'
  rw[e]
  exact LvR_pan ⟨by decide,hx,hE1.trans hE2⟩
 obtain⟨hb,rfl,hE2⟩:=FR_ret (by decide) hv
 have hb':¬((l.length:Int)<2\/8<(l.length:Int)):=fun hc=>by
  have:([(l.length:Int)].any fun n=>decide (n<2\/8<n))=true:=by simpa using hc
  rw[hb] at this;cases this
 have hce:curveErr lo hi l=curveGo lo hi none l:=if_neg hb'
 rw[hce]
 have hE02:=hE1.trans hE2
 clear hv hb hE1 hE2 hg1 hx1 hW1
 clear h1
 refine zy ?_
 refine Wc_loop (fun (s:Nat×Option CPt) m ds h'=>ds=[]/\s.1<=l.length/\Ext h h'/\(s.1=0/\s.2=none\/0<s.1/\∃hj:s.1-1<l.length,s.2=some l[s.1-1]/\lo<=l[s.1-1].at'/\l[s.1-1].at'<=hi)/\curveGo lo hi none l=curveGo lo hi s.2 (l.drop s.1)/\AllK m [(0,i64 w),(1,.slice a l.length c),(2,i64 lo),(3,i64 hi),(16,.slice a l.length c),(17,i64 (l.length:Nat)),(18,i64 (s.1:Nat))]) (fun s=>l.length-s.1) (0,none) ?_ ?_
 ·exact⟨rfl,Nat.zero_le _,hE02,.inl ⟨rfl,rfl⟩,rfl,rfl,rfl,rfl,rfl,rfl,rfl,rfl,trivial⟩
 clear hE02
 rintro⟨i,bf⟩ m ds h3 ⟨rfl,hi',hE3,hbf,hgo,hall⟩
 simp only at hi' hbf hgo hall
 refine Wc_wf fun hw3=>?_
 refine Wc.le ?_ (Le.kn hall)
 refine zy ?_
 refine Wo_dec rfl rfl rfl rfl (A_lss rfl rfl) (fun hip=>?_) (fun hip=>?_)
 rotate_left
 ·have hii:i=l.length:=by omega
  subst hii
  have e:curveGo lo hi none l=0:=by
   rw[hgo,List.drop_length]
   cases bf <;> rfl
  rw[e]
  refine zy ?_
  exact LvR_ret rfl ⟨rfl,rfl,hE3⟩
 have hil:i<l.length:=by omega
 have hP3:=RowsAt.ext (R:=PtR) (fun x _=>x) hP hE3
 obtain⟨b,o,oa,rfl,hr1,hc1,hc2⟩:=PtR.cells hP3 hil
 rw[List.drop_eq_getElem_cons hil] at hgo
 have hFi:=hF _ (List.getElem_mem hil)
 refine zy ?_
 refine Wo_do rfl rfl rfl rfl (A_ix Und.h Tsz.h rfl rfl) ?_
 refine zy ?_
 refine Wo_alloc rfl rfl Zr.h fun hx4 hE4 hW4 hg9 hn4=>?_
 refine zy ?_
 refine Wo_store rfl Tsz.h rfl rfl hg9 rfl rfl rfl fun h4 hU4=>?_
 have hE34:Ext h h4:=hE3.trans (hU4.ext hE4 hw3 (Nat.le_refl _))
 replace hg9:=hU4.at'
 clear hU4 hE4 hW4 hn4
 clear hx4
 generalize h3.nx=b9 at *
 refine zy ?_
 refine Wo_bs rfl rfl Und.h Tsz.h Zr.h rfl rfl rfl rfl rfl fun h5 hE5 hW5 hg5 hx5=>?_
 refine Wo_callG rfl rfl rfl rfl rfl Bod.h rfl rfl (mustD_sv (l:=[l[i].at']) (lit_ints hg5 rfl) (show (1:Nat)<9223372036854775808 by decide) (by decide)) (fun v h6 hv=>?_) (fun v h6 hv=>?_)
 rotate_left
 ·obtain⟨hb,hx,hE6⟩:=FR_pan hv
  have hb1:l[i].at'<lo\/hi<l[i].at':=by simpa using hb
  have e:curveGo lo hi none l=7:=by
   rw[hgo]
   cases bf with
   | none=>rw[curveGo,if_pos (.inl hb1)]
   | some q=>rw[curveGo,if_pos (.inl hb1)]
  rw[e]
  exact LvR_pan ⟨by decide,hx,(hE34.trans hE5).trans hE6⟩
 obtain⟨hb,rfl,hE6⟩:=FR_ret (by decide) hv
 have hb1:¬(l[i].at'<lo\/hi<l[i].at'):=fun hc=>by
  have:([l[i].at'].any fun n=>decide (n<lo\/hi<n))=true:=by simpa using hc
  rw[hb] at this;cases this
 have hE36:=(hE34.trans hE5).trans hE6
 replace hg9:=hE6.get (hE5.get hg9)
 clear hE34 hE6 hE5 hg5 hx5 hW5 hv hb
 clear h5
 refine zy ?_
 refine Wo_bs rfl rfl Und.h Tsz.h Zr.h rfl rfl rfl rfl rfl fun h7 hE7 hW7 hg7 hx7=>?_
 refine Wo_callG rfl rfl rfl rfl rfl Bod.h rfl rfl (mustD_sv (l:=[l[i].factor]) (lit_ints hg7 rfl) (show (1:Nat)<9223372036854775808 by decide) (by decide)) (fun v h8 hv=>?_) (fun v h8 hv=>?_)
 rotate_left
 ·obtain⟨hb,hx,hE8⟩:=FR_pan hv
  have hb2:l[i].factor<0\/1000<l[i].factor:=by simpa using hb
  have e:curveGo lo hi none l=7:=by
   rw[hgo]
   cases bf with
   | none=>rw[curveGo,if_pos (.inr hb2)]
   | some q=>rw[curveGo,if_pos (.inr hb2)]
  rw[e]
  exact LvR_pan ⟨by decide,hx,(hE36.trans hE7).trans hE8⟩
 obtain⟨hb,rfl,hE8⟩:=FR_ret (by decide) hv
 have hb2:¬(l[i].factor<0\/1000<l[i].factor):=fun hc=>by
  have:([l[i].factor].any fun n=>decide (n<0\/1000<n))=true:=by simpa using hc
  rw[hb] at this;cases this
 have hE38:=(hE36.trans hE7).trans hE8
 replace hg9:=hE8.get (hE7.get hg9)
 clear hE36 hE8 hE7 hg7 hx7 hW7 hv hb
 clear h7
 refine Wo_nil ?_
 refine Wc_wf fun hw8=>?_
 refine zy ?_
 rcases hbf with ⟨h0,rfl⟩|⟨h0,hj,hbe,hj1,hj2⟩
 ·subst h0
  rw[curveGo,if_neg (fun x=>x.elim hb1 hb2)] at hgo
  refine Wo_do rfl rfl rfl rfl (A_ff (by decide) (A_gtr rfl rfl)) ?_
  refine zy ?_
  exact⟨(1,some l[0]),(by show l.length-1<l.length-0;omega),rfl,hil,hE38,.inr ⟨Nat.one_pos,hil,rfl,(by show lo<=l[0].at';omega),(by show l[0].at'<=hi;omega)⟩,hgo,rfl,rfl,rfl,rfl,rfl,rfl,rfl,trivial⟩
 have hP8:=RowsAt.ext (R:=PtR) (fun x _=>x) hP hE38
 obtain⟨b',o',oa',eb,_,hd1,hd2⟩:=PtR.cells hP8 hj
 cases eb
 refine Wo_do rfl rfl rfl rfl (A_tt (by omega) (A_gtr rfl rfl)) ?_
 rw[hbe,curveGo,if_neg (fun x=>x.elim hb1 hb2)] at hgo
 refine zy ?_
 have hEa:=Ext.add hw8 (.cells [i64 1,i64 (l[i].at'-l[i-1].at')] 3 false)
 have hg9a:=hEa.get hg9
 refine Wc_draw hmix [0,0,3,0,8,0,0,64,224,480,992,2040,0,4096,0,0,32768,114688,245760,507904,1044480,2093056,4194303] [0,1,2,3,4,5,6,7,8,9,10,11,12,13,14,15,16,17,18,19,20,21] (some 22) [([],none)] (by kernel_rfl) (by kernel_rfl) ?_
 refine z_m ?_;refine z_m ?_;refine z_b ?_;refine z_f ?_;refine z_l ?_;refine z_m ?_;refine z_m ?_;refine z_u ?_;refine Wp_pure rfl rfl rfl rfl rfl (fun _=>A_ix (k:=i-1) Und.h Tsz.h rfl (by show some (i64 ((i:Int)-1))=some (i64 ((i-1:Nat):Int));congr 2;omega) (by omega)) ?_;refine z_f ?_;refine z_l ?_;refine z_u ?_;refine z_f ?_;refine z_l ?_;refine z_m ?_;refine z_m ?_;refine z_u ?_;refine Wp_pure rfl rfl rfl rfl rfl (fun _=>A_ix (k:=i-1) Und.h Tsz.h rfl (by show some (i64 ((i:Int)-1))=some (i64 ((i-1:Nat):Int));congr 2;omega) (by omega)) ?_;refine z_f ?_;refine z_l ?_;refine z_u ?_
 refine Wp_new (nk:=.sl _ _) rfl rfl rfl rfl rfl (fun _ _ hs=>N_bs hs Und.h Tsz.h Zr.h rfl rfl rfl rfl rfl) ?_
 refine Wp_eff (h1:=(Heap.add h8 _)) [0,1,2,3,4,5,6,7,8,9,10,11,12,13,14,15,16,17,18,19,20,21] (by kernel_rfl) rfl (Stl_nil rfl) rfl rfl rfl (W1_callG rfl rfl rfl rfl rfl Bod.h (mustD_sv (l:=[1,l[i].at'-l[i-1].at']) (lit_ints Heap.get_add_same rfl) (show (2:Nat)<9223372036854775808 by decide) (by decide)) (fun v h9 hv=>?_) (fun v h9 hv=>?_))
 ·obtain⟨hb,hx,hE9⟩:=FR_ret (by decide) hv
  cases hx
  have c1:¬l[i].at'<=l[i-1].at':=fun hc=>by
   have:([1,l[i].at'-l[i-1].at'].any fun n=>decide (n<1\/l[i].at'-l[i-1].at'<n))=true:=by
    simp only[List.any_cons,List.any_nil,Bool.or_false,Bool.or_eq_true,decide_eq_true_eq];omega
   rw[hb] at this;cases this
  replace hg9:=hE9.get hg9a
  have hE39:=(hE38.trans hEa).trans hE9
  refine Wp_end (h1:=h9) (Stl_nil rfl) rfl ?_
  clear hE38 hEa hE9 hg9a hv hb hw8
  show Wc _ _ _ _ _ _ _
  refine Wc_wf fun hw9=>?_
  have hP9:=RowsAt.ext (R:=PtR) (fun x _=>x) hP hE39
  obtain⟨b',o',oa',eb,_,hd1,hd2⟩:=PtR.cells hP9 hj
  cases eb
  refine zy ?_
  have hEa:=Ext.add hw9 (.cells [i64 l[i].factor] 3 false)
  refine Wc_draw hmix [0,0,3,0,0,16,56,120,248,0,512,1536,4095] [0,1,2,3,4,5,6,7,8,9,10,11] (some 12) [([],none)] (by kernel_rfl) (by kernel_rfl) ?_
  refine z_m ?_;refine z_m ?_;refine z_b ?_;refine z_m ?_;refine z_m ?_;refine z_u ?_;refine Wp_pure rfl rfl rfl rfl rfl (fun _=>A_ix (k:=i-1) Und.h Tsz.h rfl (by show some (i64 ((i:Int)-1))=some (i64 ((i-1:Nat):Int));congr 2;omega) (by omega)) ?_;refine z_f ?_;refine z_l ?_;refine z_f ?_;refine z_l ?_
  refine Wp_new (nk:=.sl _ _) rfl rfl rfl rfl rfl (fun _ _ hs=>N_bs hs Und.h Tsz.h Zr.h rfl rfl rfl rfl rfl) ?_
  refine Wp_eff (h1:=(Heap.add h9 _)) [0,1,2,3,4,5,6,7,8,9,10,11] (by kernel_rfl) rfl (Stl_nil rfl) rfl rfl rfl (W1_callG rfl rfl rfl rfl rfl Bod.h (mustD_sv (l:=[l[i].factor]) (lit_ints Heap.get_add_same rfl) (show (1:Nat)<9223372036854775808 by decide) (by decide)) (fun v h10 hv=>?_) (fun v h10 hv=>?_))
  ·obtain⟨hb,hx,hE10⟩:=FR_ret (by decide) hv
   cases hx
   have c2:¬l[i].factor<l[i-1].factor:=fun hc=>by
    have:([l[i].factor].any fun n=>decide (n<l[i-1].factor\/1000<n))=true:=by
     simp only[List.any_cons,List.any_nil,Bool.or_false,decide_eq_true_eq];exact .inl hc
    rw[hb] at this;cases this
   rw[if_neg (fun h=>h.elim c1 c2)] at hgo
   refine Wp_end (h1:=h10) (Stl_nil rfl) rfl ?_
   refine zy ?_
   exact⟨(i+1,some l[i]),(by show l.length-(i+1)<l.length-i;omega),rfl,hil,(hE39.trans hEa).trans hE10,.inr ⟨Nat.succ_pos _,hil,rfl,(by show lo<=l[i].at';omega),(by show l[i].at'<=hi;omega)⟩,hgo,rfl,rfl,rfl,rfl,rfl,rfl,rfl,trivial⟩
  ·obtain⟨hb,hx,hE10⟩:=FR_pan hv
   have c2:l[i].factor<l[i-1].factor:=by
    simp only[List.any_cons,List.any_nil,Bool.or_false,decide_eq_true_eq] at hb;omega
   rw[if_pos (.inr c2)] at hgo
   rw[hgo]
   exact LvR_pan ⟨by decide,hx,(hE39.trans hEa).trans hE10⟩
 ·obtain⟨hb,hx,hE9⟩:=FR_pan hv
  have c1:l[i].at'<=l[i-1].at':=by
   simp only[List.any_cons,List.any_nil,Bool.or_false,Bool.or_eq_true,decide_eq_true_eq] at hb;omega
  rw[if_pos (.inl c1)] at hgo
  rw[hgo]
  exact LvR_pan ⟨by decide,hx,(hE38.trans hEa).trans hE9⟩
end Go.Dw
/- EM: contracts of decay: faults are caught; what is wrong with a rule. -/
namespace Go.Dw
open Go Go.Dx Go.Proofs
set_option maxRecDepth 100000
theorem caught_ret {fn:Func}{m:Mem}{h:Heap}{R:VS->Prop}{q:Nat}(hL:LvR Tryz.prog fn m [] .none h R):LvR Tryz.prog fn m [.fn 126 [ptr q] []] .none h R:=by
 refine LvR_fn Tryz.func126 rfl Bod.h (by rw[Tryz.ntmps126];rfl) ?_
 show Wz Tryz.prog ⟨126,10,none⟩ _ _ _ _ _
 refine Wz_seq ?_
 refine Wz_region ?_
 refine Wzo_rec rfl rfl rfl rfl ?_
 refine Wzo_op rfl rfl (A_assign rfl) ?_
 refine Wzo_nil ?_
 refine Wz_seq ?_
 refine Wz_region ?_
 refine Wzo_op rfl rfl (A_move rfl) ?_
 refine Wzo_op rfl rfl (A_neqNone Tryz.underlying20 rfl) ?_
 refine Wzo_nil ?_
 refine Wz_condF rfl ?_
 exact Wz_code rfl (Wc_skip ⟨rfl,.inl rfl,rfl,hL⟩)
theorem caught_pan {fn:Func}{m:Mem}{h0 h:Heap}{R:VS->Prop}{q:Nat}{x y z v:Value}{e:Int}(hq:h.get q=some (.cells [x,y,z] 150 false))(hE:Ext h0 h)(hw:WF h0)(hn:h0.nx<=q)(hv:∃p k,v=fauV p k e)
  (hR:∀p k h1,Ext h0 h1->h1.get q=some (.cells [i64 p,i64 k,i64 e] 150 false)->LvR Tryz.prog fn m [] .none h1 R):LvR Tryz.prog fn m [.fn 126 [ptr q] []] (.some v) h R:=by
 obtain⟨p,k,rfl⟩:=hv
 refine LvR_fn Tryz.func126 rfl Bod.h (by rw[Tryz.ntmps126];rfl) ?_
 show Wz Tryz.prog ⟨126,10,none⟩ _ _ _ _ _
 refine Wz_seq ?_
 refine Wz_region ?_
 refine Wzo_rec rfl rfl rfl rfl ?_
 refine Wzo_op rfl rfl (A_assign rfl) ?_
 refine Wzo_nil ?_
 refine Wz_seq ?_
 refine Wz_region ?_
 refine Wzo_op rfl rfl (A_move rfl) ?_
 refine Wzo_op rfl rfl (A_neqSome Tryz.underlying20 rfl rfl) ?_
 refine Wzo_nil ?_
 refine Wz_condT rfl ?_
 refine Wz_code rfl ?_
 refine zy ?_
 refine Wo_store rfl Tsz.h rfl rfl hq rfl rfl rfl fun h1 hU1=>?_
 refine Wo_nil ?_
 exact⟨rfl,.inl rfl,rfl,hR p k h1 (hU1.ext hE hw hn) hU1.at'⟩
section
variable {P:Program}{m:Mem}{h:Heap}{d:Option Tmp}{ty:TypeId}{pos:String}{af:Array Edge}{gu:Option (Nat×Bool)}
theorem A_indexAgg {t el:TypeId}{x i:Operand}{cs:List Value}{n len k:Nat}{ki:IntKind}{z:Int}{v:Value}(ht:P.underlying t=some (.array len el))(hz:tsz P el=some n)(hx:opk h m x=some (.agg ⟨cs⟩))(hi:opk h m i=some (.int ki z))(hk:z=(k:Int))(hlt:k<len)(hv:apart P el cs (Nat.mul k n)=some v) :
  Aop P ⟨d,.index t x i,ty,pos,af,gu⟩ m h v h :=
 Aop_of fun e hs=>by
  subst hk
  show pIndex P h e t x i=_
  unfold pIndex
  rw[opk_opv hs hx,opk_opv hs hi]
  show (match aindex P t (.agg ⟨cs⟩) (.int ki (Int.ofNat k)) with|some v=>AR.ok v h|none=>.no)=_
  have:Nat.blt k len=true:=Nat.ble_eq_true_of_le hlt
  simp only[aindex,natOf,ht,this,hz,hv]
end
theorem fault_end {fn:Func}{m:Mem}{h h1:Heap}{q:Nat}{p k e:Int}(hfr:fn.results=#[.cell 2 150])(hm:m 2=some (ptr q))(hE:Ext h h1)(hg:h1.get q=some (.cells [i64 p,i64 k,i64 e] 150 false)) :
  LvR Tryz.prog fn m [] .none h1 (RetP fun v h'=>∃p k,v=.agg ⟨[i64 p,i64 k,i64 e]⟩/\Ext h h') :=
 LvR_ret (vs:=[.agg ⟨[i64 p,i64 k,i64 e]⟩]) (by rw[hfr];exact resk_cell hm (aload_row RowC.h (rowAt_cells hg rfl)) rfl) ⟨p,k,rfl,hE⟩
theorem fault_pan {fn:Func}{m:Mem}{h0 h:Heap}{q:Nat}{x y z v:Value}{e e':Int}(hv:∃p k,v=fauV p k e)(he:e'=e)(hfr:fn.results=#[.cell 2 150])(hm:m 2=some (ptr q))(hq:h.get q=some (.cells [x,y,z] 150 false))(hE:Ext h0 h)(hw:WF h0)(hn:h0.nx<=q) :
  LvR Tryz.prog fn m [.fn 126 [ptr q] []] (.some v) h (RetP fun v h'=>∃p k,v=.agg ⟨[i64 p,i64 k,i64 e']⟩/\Ext h0 h') :=
 caught_pan hq hE hw hn hv fun _ _ _ hE1 hg=>fault_end hfr hm hE1 (by rw[he];exact hg)
theorem mustD1 {p k e lo hi n:Int}{b c:Nat}{el:TypeId}{op:Bool}{h:Heap}(hg:h.get b=some (.cells [i64 n] el op))(he:e≠0) :
  Sv Tryz.prog 128 [.agg ⟨[i64 p,i64 k,i64 e]⟩,i64 lo,i64 hi,.slice (some ⟨b,0,none⟩) 1 c] h (FR (if n<lo\/hi<n then e else 0) h):=by
 have h1:=mustD_sv (p:=p) (k:=k) (lo:=lo) (hi:=hi) (c:=c) (l:=[n]) (lit_ints hg rfl) (show (1:Nat)<9223372036854775808 by decide) he
 have e1:(if ([n].any fun n=>decide (n<lo\/hi<n))=true then e else 0)=if n<lo\/hi<n then e else 0:=by simp
 rw[e1] at h1
 exact h1
theorem FR_ret1 {c:Prop} [Decidable c]{e:Int}{h h':Heap}{v:Value}(he:e≠0)(hr:FR (if c then e else 0) h (.ret v h')):¬c/\v=.tuple ⟨[]⟩/\Ext h h':=by
 obtain⟨h1,h2,h3⟩:=hr
 exact⟨fun hc=>he (by rw[if_pos hc] at h1;exact h1),h2,h3⟩
theorem FR_pan1 {c:Prop} [Decidable c]{e:Int}{h h':Heap}{v:Value}(hr:FR (if c then e else 0) h (.pan v h')):c/\(∃p k,v=fauV p k e)/\Ext h h':=by
 obtain⟨h1,h2,h3⟩:=hr
 by_cases hc:c
 ·rw[if_pos hc] at h2;exact⟨hc,h2,h3⟩
 ·exact absurd (if_neg hc) h1
set_option maxHeartbeats 2000000 in
theorem rule_sv {rr:List Value}{r:DRule}{h:Heap}(hr:RuleAt h rr r)(hf:r.Fit) :
  Sv Tryz.prog 86 [.agg ⟨rr⟩] h (RetP fun v h'=>∃p k,v=.agg ⟨[i64 p,i64 k,i64 (ruleErr r)]⟩/\Ext h h'):=by
 obtain⟨ah,ch,aw,cw,g0,g1',g2',hge,rfl,hPh,hPw⟩:=hr
 have hgr:=hf.gr
 rw[hge] at hgr
 have hap:∀k,k<3->apart Tryz.prog 3 [i64 g0,i64 g1',i64 g2'] (Nat.mul k 1)=some (i64 ([g0,g1',g2'].getD k 0)):=fun k hk=>by
  rcases (show k=0\/k=1\/k=2 by omega) with rfl|rfl|rfl <;> rfl
 have hdrop:∀k,k<3->[g0,g1',g2'].drop k=[g0,g1',g2'].getD k 0 :: [g0,g1',g2'].drop (k+1):=fun k hk=>by
  rcases (show k=0\/k=1\/k=2 by omega) with rfl|rfl|rfl <;> rfl
 have hmem:∀k,k<3->[g0,g1',g2'].getD k 0∈[g0,g1',g2']:=fun k hk=>by
  rcases (show k=0\/k=1\/k=2 by omega) with rfl|rfl|rfl <;> simp
 have hd3:[g0,g1',g2'].drop 3=[]:=rfl
 refine Sv_wf fun hw=>?_
 refine Sv_enterR Tryz.func86 rfl (by rw[Tryz.ntmps86];rfl) ?_
 show Wc Tryz.prog ⟨86,48,none⟩ _ _ _ _ _
 refine zy ?_
 refine Wo_box rfl rfl rfl fun h1 hE1 hW1 hg1 hn1=>?_
 refine Wo_alloc rfl rfl Zr.h fun h2 hE2 hW2 hg2 hn2=>?_
 replace hg1:=hE2.get hg1
 have h0q:h.nx<=h1.nx:=hE1.2.1
 have hE:=hE1.trans hE2
 have hpq:h1.nx≠h.nx:=by omega
 clear hE1 hE2 hW1 hW2 hn2
 generalize h.nx=bp at hg1 hpq
 generalize h1.nx=bq at *
 refine zy ?_
 refine Wo_defer rfl rfl rfl rfl rfl Bod.h ?_
 refine zy ?_
 refine Wo_callG rfl rfl rfl rfl rfl Bod.h rfl rfl (curveD_sv (lo:=-300) (hi:=600) (RowsAt.ext (R:=PtR) (fun x _=>x) hPh hE) hf.h2 (by decide) (by decide)) (fun v h3 hv=>?_) (fun v h3 hv=>?_)
 rotate_left
 ·obtain⟨c1,hx,hE3⟩:=hv
  exact fault_pan hx (if_pos c1) rfl rfl (hE3.get hg2) (hE.trans hE3) hw h0q
 obtain⟨c1,rfl,hE3⟩:=hv
 replace hE:=hE.trans hE3
 replace hg1:=hE3.get hg1
 replace hg2:=hE3.get hg2
 clear hE3
 refine zy ?_
 refine Wo_callG rfl rfl rfl rfl rfl Bod.h rfl rfl (curveD_sv (lo:=0) (hi:=1000) (RowsAt.ext (R:=PtR) (fun x _=>x) hPw hE) hf.w2 (by decide) (by decide)) (fun v h4 hv=>?_) (fun v h4 hv=>?_)
 rotate_left
 ·obtain⟨c2,hx,hE3⟩:=hv
  exact fault_pan hx ((if_neg (fun x=>x c1)).trans (if_pos c2)) rfl rfl (hE3.get hg2) (hE.trans hE3) hw h0q
 obtain⟨c2,rfl,hE3⟩:=hv
 replace hE:=hE.trans hE3
 replace hg1:=hE3.get hg1
 replace hg2:=hE3.get hg2
 clear hE3
 have hR:ruleErr r=if (r.own<0\/100000<r.own)\/(r.feed<0\/999999<r.feed) then 7
   else if gradesGo 0 [g0,g1',g2']≠0 then gradesGo 0 [g0,g1',g2']
   else if r.lost<1\/1000000<r.lost then 7 else 0:=by
  unfold ruleErr
  rw[if_neg (fun x=>x c1),if_neg (fun x=>x c2),hge]
 refine zy ?_
 refine Wo_bs rfl rfl Und.h Tsz.h Zr.h rfl rfl rfl rfl rfl fun h5 hE5 hW5 hg5 hx5=>?_
 refine Wo_callG rfl rfl rfl rfl rfl Bod.h rfl rfl (mustD1 hg5 (by decide)) (fun v h6 hv=>?_) (fun v h6 hv=>?_)
 rotate_left
 ·obtain⟨c3,hx,hE6⟩:=FR_pan1 hv
  exact fault_pan hx (hR.trans (if_pos (.inl c3))) rfl rfl (hE6.get (hE5.get hg2)) ((hE.trans hE5).trans hE6) hw h0q
 obtain⟨c3,rfl,hE6⟩:=FR_ret1 (by decide) hv
 replace hE:=(hE.trans hE5).trans hE6
 replace hg1:=hE6.get (hE5.get hg1)
 replace hg2:=hE6.get (hE5.get hg2)
 clear hv hE5 hE6 hg5 hx5 hW5
 refine zy ?_
 refine Wo_bs rfl rfl Und.h Tsz.h Zr.h rfl rfl rfl rfl rfl fun h5 hE5 hW5 hg5 hx5=>?_
 refine Wo_callG rfl rfl rfl rfl rfl Bod.h rfl rfl (mustD1 hg5 (by decide)) (fun v h7 hv=>?_) (fun v h7 hv=>?_)
 rotate_left
 ·obtain⟨c4,hx,hE6⟩:=FR_pan1 hv
  exact fault_pan hx (hR.trans (if_pos (.inr c4))) rfl rfl (hE6.get (hE5.get hg2)) ((hE.trans hE5).trans hE6) hw h0q
 obtain⟨c4,rfl,hE6⟩:=FR_ret1 (by decide) hv
 replace hE:=(hE.trans hE5).trans hE6
 replace hg1:=hE6.get (hE5.get hg1)
 replace hg2:=hE6.get (hE5.get hg2)
 clear hv hE5 hE6 hg5 hx5 hW5
 rw[if_neg (fun x=>x.elim c3 c4)] at hR
 refine zy ?_
 refine Wc_loop (fun (s:Nat×Int) m ds h'=>ds=[.fn 126 [ptr bq] []]/\s.1<=3/\Ext h h'/\h'.get bp=some (.cells [.slice ah r.heat.length ch,.slice aw r.wet.length cw,i64 r.own,i64 r.feed,i64 g0,i64 g1',i64 g2',i64 r.lost] 48 false)/\h'.get bq=some (.cells [i64 0,i64 0,i64 0] 150 false)/\(0<=s.2/\s.2<=1000000)/\gradesGo 0 [g0,g1',g2']=gradesGo s.2 ([g0,g1',g2'].drop s.1)/\AllK m [(1,ptr bp),(2,ptr bq),(3,i64 s.2),(23,.agg ⟨[i64 g0,i64 g1',i64 g2']⟩),(24,i64 (s.1:Nat))]) (fun s=>3-s.1) (0,0) ?_ ?_
 ·exact⟨rfl,Nat.zero_le _,hE,hg1,hg2,⟨by decide,by decide⟩,rfl,rfl,rfl,rfl,rfl,rfl,trivial⟩
 clear hE hg1 hg2
 rintro⟨i,bf⟩ m ds h3 ⟨rfl,hi',hE,hg1,hg2,⟨hb0,hb1⟩,hgo,hall⟩
 simp only at hi' hb0 hb1 hgo hall
 generalize gradesGo 0 [g0,g1',g2']=G at *
 refine Wc_wf fun hw3=>?_
 refine Wc.le ?_ (Le.kn hall)
 refine zy ?_
 refine Wo_dec rfl rfl rfl rfl (A_lss rfl rfl) (fun hip=>?_) (fun hip=>?_)
 rotate_left
 ·have hii:i=3:=by omega
  subst hii
  rw[hd3] at hgo
  rw[hgo,show gradesGo bf []=0 from rfl,if_neg (fun x=>x rfl)] at hR
  refine zy ?_
  refine Wo_bs rfl rfl Und.h Tsz.h Zr.h rfl rfl rfl rfl rfl fun h5 hE5 hW5 hg5 hx5=>?_
  refine Wo_callG rfl rfl rfl rfl rfl Bod.h rfl rfl (mustD1 hg5 (by decide)) (fun v h6 hv=>?_) (fun v h6 hv=>?_)
  rotate_left
  ·obtain⟨c5,hx,hE6⟩:=FR_pan1 hv
   exact fault_pan hx (hR.trans (if_pos c5)) rfl rfl (hE6.get (hE5.get hg2)) ((hE.trans hE5).trans hE6) hw h0q
  obtain⟨c5,rfl,hE6⟩:=FR_ret1 (by decide) hv
  replace hE:=(hE.trans hE5).trans hE6
  replace hg1:=hE6.get (hE5.get hg1)
  replace hg2:=hE6.get (hE5.get hg2)
  clear hv hE5 hE6 hg5 hx5 hW5
  rw[if_neg c5] at hR
  refine zy ?_
  refine Wo_store rfl Tsz.h rfl rfl hg2 rfl rfl rfl fun h7 hU7=>?_
  refine zy ?_
  exact Wc_ret (caught_ret (fault_end rfl rfl (hU7.ext hE hw h0q) (by rw[hR];exact hU7.at')))
 have hi3:i<3:=by omega
 have hgi:=hgr _ (hmem i hi3)
 have hapi:=hap i hi3
 rw[hdrop i hi3] at hgo
 generalize [g0,g1',g2'].getD i 0=g at *
 refine zy ?_
 refine Wo_do rfl rfl rfl rfl (A_indexAgg (k:=i) Und.h Tsz.h rfl rfl rfl (by omega) hapi) ?_
 refine zy ?_
 refine Wo_bs rfl rfl Und.h Tsz.h Zr.h rfl rfl rfl rfl rfl fun h5 hE5 hW5 hg5 hx5=>?_
 refine Wo_callG rfl rfl rfl rfl rfl Bod.h rfl rfl (mustD1 hg5 (by decide)) (fun v h6 hv=>?_) (fun v h6 hv=>?_)
 rotate_left
 ·obtain⟨c6,hx,hE6⟩:=FR_pan1 hv
  exact fault_pan hx (hR.trans (by rw[hgo,gradesGo,if_pos c6];rfl)) rfl rfl (hE6.get (hE5.get hg2)) ((hE.trans hE5).trans hE6) hw h0q
 obtain⟨c6,rfl,hE6⟩:=FR_ret1 (by decide) hv
 replace hE:=(hE.trans hE5).trans hE6
 replace hg1:=hE6.get (hE5.get hg1)
 replace hg2:=hE6.get (hE5.get hg2)
 clear hv hE5 hE6 hg5 hx5 hW5
 rw[gradesGo,if_neg c6] at hgo
 refine zy ?_
 refine Wo_bs rfl rfl Und.h Tsz.h Zr.h rfl rfl rfl rfl rfl fun h7 hE5 hW5 hg5 hx5=>?_
 refine Wo_callG rfl rfl rfl rfl rfl Bod.h rfl rfl (mustD1 hg5 (by decide)) (fun v h8 hv=>?_) (fun v h8 hv=>?_)
 rotate_left
 ·obtain⟨c7,hx,hE6⟩:=FR_pan1 hv
  exact fault_pan hx (hR.trans (by rw[hgo.trans (if_pos (show g<=bf by omega))];rfl)) rfl rfl (hE6.get (hE5.get hg2)) ((hE.trans hE5).trans hE6) hw h0q
 obtain⟨c7,rfl,hE6⟩:=FR_ret1 (by decide) hv
 replace hE:=(hE.trans hE5).trans hE6
 replace hg1:=hE6.get (hE5.get hg1)
 replace hg2:=hE6.get (hE5.get hg2)
 clear hv hE5 hE6 hg5 hx5 hW5
 rw[if_neg (by omega)] at hgo
 refine zy ?_
 exact⟨(i+1,g),(by show 3-(i+1)<3-i;omega),rfl,hi3,hE,hg1,hg2,⟨by show 0<=g;omega,by show g<=1000000;omega⟩,hgo,rfl,rfl,rfl,rfl,rfl,trivial⟩
end Go.Dw
/- EN: contracts of decay: what is wrong with a task. -/
namespace Go.Dw
open Go Go.Dx Go.Proofs
set_option maxRecDepth 100000
set_option maxHeartbeats 4000000 in
theorem task_sv {tr:List Value}{t:DTask}{h:Heap}(ht:DTaskAt h tr t)(hf:t.Fit) :
  Sv Tryz.prog 113 [.agg ⟨tr⟩] h (RetP fun v h'=>∃p k,v=.agg ⟨[i64 p,i64 k,i64 (dErr t)]⟩/\Ext h h'):=by
 obtain⟨rr,ad,cd,ats,ct,hr0,rfl,hDs,hTs⟩:=ht
 have hr:=hr0
 obtain⟨ah,ch,aw,cw,g0,g1',g2',hge,rfl,hPh,hPw⟩:=hr
 have hfs:=hf.first
 have hfs1:-9223372036854775808<=t.first:=hfs.1
 have hfd:=hf.days
 have hft:=hf.tests
 refine Sv_wf fun hw=>?_
 refine Sv_enterR Tryz.func113 rfl (by rw[Tryz.ntmps113];rfl) ?_
 show Wc Tryz.prog ⟨113,85,none⟩ _ _ _ _ _
 refine zy ?_
 refine Wo_box rfl rfl rfl fun h1 hE1 hW1 hg1 hn1=>?_
 refine Wo_alloc rfl rfl Zr.h fun h2 hE2 hW2 hg2 hn2=>?_
 replace hg1:=hE2.get hg1
 have h0q:h.nx<=h1.nx:=hE1.2.1
 have hE:=hE1.trans hE2
 have hpq:h1.nx≠h.nx:=by omega
 clear hE1 hE2 hW1 hW2 hn2
 generalize h.nx=bp at hg1 hpq
 generalize h1.nx=bq at *
 refine zy ?_
 refine Wo_callr rfl rfl rfl rfl rfl Bod.h rfl rfl (rule_sv (hr0.ext hE) hf.rule) ?_
 rintro _ h3 ⟨p1,k1,rfl,hE3⟩
 replace hE:=hE.trans hE3
 replace hg1:=hE3.get hg1
 replace hg2:=hE3.get hg2
 clear hE3
 refine zy ?_
 refine Wo_allocStore rfl rfl Zr.h Tsz.h rfl (fun _=>rfl) rfl rfl rfl fun h4 hE4 hW4 hg3 hn4=>?_
 replace hE:=hE.trans hE4
 replace hg1:=hE4.get hg1
 replace hg2:=hE4.get hg2
 generalize h3.nx=b3 at *
 refine zy ?_
 by_cases c1:ruleErr t.rule=0
 rotate_left
 ·refine Wo_do rfl rfl rfl rfl (A_tt c1 (A_neq rfl rfl)) ?_
  refine zy ?_
  refine Wo_store rfl Tsz.h rfl rfl hg2 rfl rfl rfl fun h7 hU7=>?_
  refine zy ?_
  exact Wc_ret (fault_end rfl rfl (hU7.ext hE hw h0q) (by rw[show dErr t=ruleErr t.rule from if_pos c1];exact hU7.at'))
 refine Wo_do rfl rfl rfl rfl (A_ff (fun x=>x c1) (A_neq rfl rfl)) ?_
 have hD:dErr t=if 400<(t.days.length:Int)\/20<(t.tests.length:Int) then 3
   else if (t.first<0\/80000<t.first)\/80000<t.first+t.days.length then 7
   else if daysGo t.days≠0 then daysGo t.days
   else if spanErr t.start≠0 then spanErr t.start
   else if t.tests.any (testBad t)=true then 7 else 0:=if_neg (fun x=>x c1)
 refine zy ?_
 refine Wo_defer rfl rfl rfl rfl rfl Bod.h ?_
 clear hE4 hW4 hg3 hn4
 refine zy ?_
 refine Wo_bs rfl rfl Und.h Tsz.h Zr.h rfl rfl rfl rfl rfl fun h5 hE5 hW5 hg5 hx5=>?_
 refine Wo_callG rfl rfl rfl rfl rfl Bod.h rfl rfl (mustD1 hg5 (by decide)) (fun v h6 hv=>?_) (fun v h6 hv=>?_)
 rotate_left
 ·obtain⟨c2,hx,hE6⟩:=FR_pan1 hv
  exact fault_pan hx (hD.trans (if_pos (by omega))) rfl rfl (hE6.get (hE5.get hg2)) ((hE.trans hE5).trans hE6) hw h0q
 obtain⟨c2,rfl,hE6⟩:=FR_ret1 (by decide) hv
 replace hE:=((hE.trans hE5).trans hE6)
 replace hg1:=hE6.get (hE5.get hg1)
 replace hg2:=hE6.get (hE5.get hg2)
 clear hv hE6 hE5 hg5 hx5 hW5
 refine zy ?_
 refine Wo_bs rfl rfl Und.h Tsz.h Zr.h rfl rfl rfl rfl rfl fun h5 hE5 hW5 hg5 hx5=>?_
 refine Wo_callG rfl rfl rfl rfl rfl Bod.h rfl rfl (mustD1 hg5 (by decide)) (fun v h7 hv=>?_) (fun v h7 hv=>?_)
 rotate_left
 ·obtain⟨c3,hx,hE6⟩:=FR_pan1 hv
  exact fault_pan hx (hD.trans (if_pos (by omega))) rfl rfl (hE6.get (hE5.get hg2)) ((hE.trans hE5).trans hE6) hw h0q
 obtain⟨c3,rfl,hE6⟩:=FR_ret1 (by decide) hv
 replace hE:=((hE.trans hE5).trans hE6)
 replace hg1:=hE6.get (hE5.get hg1)
 replace hg2:=hE6.get (hE5.get hg2)
 clear hv hE6 hE5 hg5 hx5 hW5
 rw[if_neg (by omega)] at hD
 refine zy ?_
 refine Wo_bs rfl rfl Und.h Tsz.h Zr.h rfl rfl rfl rfl rfl fun h5 hE5 hW5 hg5 hx5=>?_
 refine Wo_callG rfl rfl rfl rfl rfl Bod.h rfl rfl (mustD1 hg5 (by decide)) (fun v h8 hv=>?_) (fun v h8 hv=>?_)
 rotate_left
 ·obtain⟨c4,hx,hE6⟩:=FR_pan1 hv
  exact fault_pan hx (hD.trans (if_pos (by omega))) rfl rfl (hE6.get (hE5.get hg2)) ((hE.trans hE5).trans hE6) hw h0q
 obtain⟨c4,rfl,hE6⟩:=FR_ret1 (by decide) hv
 replace hE:=((hE.trans hE5).trans hE6)
 replace hg1:=hE6.get (hE5.get hg1)
 replace hg2:=hE6.get (hE5.get hg2)
 clear hv hE6 hE5 hg5 hx5 hW5
 rw[if_neg (by omega)] at hD
 refine zy ?_
 refine Wc_loop (fun (i:Nat) m ds h'=>ds=[.fn 126 [ptr bq] []]/\i<=t.days.length/\Ext h h'/\h'.get bp=some (.cells ([.slice ah t.rule.heat.length ch,.slice aw t.rule.wet.length cw,i64 t.rule.own,i64 t.rule.feed,i64 g0,i64 g1',i64 g2',i64 t.rule.lost,i64 t.first,.slice ad t.days.length cd,i64 t.start.lo,i64 t.start.hi,.slice ats t.tests.length ct]) 54 false)/\h'.get bq=some (.cells [i64 0,i64 0,i64 0] 150 false)/\(∀d∈t.days.take i,climErr d=0)/\AllK m [(1,ptr bp),(2,ptr bq),(4,i64 (t.days.length:Nat)),(39,.slice ad t.days.length cd),(40,i64 (t.days.length:Nat)),(41,i64 (i:Nat))]) (fun i=>t.days.length-i) 0 ?_ ?_
 ·exact⟨rfl,Nat.zero_le _,hE,hg1,hg2,(fun _ hm=>nomatch hm),rfl,rfl,rfl,rfl,rfl,rfl,trivial⟩
 clear hE hg1 hg2
 rintro i m ds h9 ⟨rfl,hi,hE,hg1,hg2,hcl,hall⟩
 refine Wc_wf fun hw9=>?_
 refine Wc.le ?_ (Le.kn hall)
 refine zy ?_
 refine Wo_dec rfl rfl rfl rfl (A_lss rfl rfl) (fun hip=>?_) (fun hip=>?_)
 ·have hi':i<t.days.length:=by omega
  obtain⟨bD,oD,oaD,rfl,hrow⟩:=DayR.at (RowsAt.ext (R:=DayR) (fun x _=>x) hDs hE) hi'
  refine zy ?_
  refine Wo_do rfl rfl rfl rfl (A_ix Und.h Tsz.h rfl rfl) ?_
  refine zy ?_
  refine Wo_alloc rfl rfl Zr.h fun hx4 hE4 hW4 hg6 hn4=>?_
  refine zy ?_
  refine Wo_store rfl Tsz.h rfl rfl hg6 rfl rfl rfl fun h4 hU4=>?_
  replace hE:Ext h h4:=hE.trans (hU4.ext hE4 hw9 (Nat.le_refl _))
  have hg14:=(hU4.ext hE4 hw9 (Nat.le_refl _)).get hg1
  have hg24:=(hU4.ext hE4 hw9 (Nat.le_refl _)).get hg2
  replace hg6:=hU4.at'
  clear hU4 hE4 hW4 hn4
  generalize h9.nx=b9 at *
  refine zy ?_
  have e:climErr t.days[i]≠0->daysGo t.days=climErr t.days[i]:=fun c5=>by
   rw[daysGo_take hi hcl,List.drop_eq_getElem_cons hi',daysGo,if_pos c5]
  refine Wo_callG rfl rfl rfl rfl rfl Bod.h rfl rfl (climateD_sv (d:=t.days[i])) (fun v h10 hv=>?_) (fun v h10 hv=>?_)
  rotate_left
  ·obtain⟨c5,hx,hE6⟩:=hv
   exact fault_pan hx (hD.trans (by rw[e c5,if_pos c5])) rfl rfl (hE6.get hg24) (hE.trans hE6) hw h0q
  obtain⟨c5,rfl,hE6⟩:=hv
  replace hE:=(hE.trans hE6)
  replace hg14:=hE6.get hg14
  replace hg24:=hE6.get hg24
  clear hE6
  refine zy ?_
  refine⟨i+1,(by show t.days.length-(i+1)<t.days.length-i;omega),rfl,hi',hE,hg14,hg24,fun d hd=>?_,rfl,rfl,rfl,rfl,rfl,rfl,trivial⟩
  rw[take_succ hi'] at hd
  rcases List.mem_append.1 hd with g|g
  ·exact hcl d g
  ·rw[List.mem_singleton.1 g];exact c5
 have hii:i=t.days.length:=by omega
 subst hii
 have e:daysGo t.days=0:=by rw[daysGo_take (Nat.le_refl _) hcl,List.drop_length];rfl
 rw[e,if_neg (fun x=>x rfl)] at hD
 refine zy ?_
 refine Wo_callG rfl rfl rfl rfl rfl Bod.h rfl rfl (levelsD_sv (s:=t.start)) (fun v h10 hv=>?_) (fun v h10 hv=>?_)
 rotate_left
 ·obtain⟨c6,hx,hE6⟩:=hv
  exact fault_pan hx (hD.trans (if_pos c6)) rfl rfl (hE6.get hg2) (hE.trans hE6) hw h0q
 obtain⟨c6,rfl,hE6⟩:=hv
 replace hE:=(hE.trans hE6)
 replace hg1:=hE6.get hg1
 replace hg2:=hE6.get hg2
 clear hE6
 rw[c6,if_neg (fun x=>x rfl)] at hD
 clear hall hcl hw9
 refine zy ?_
 refine Wc_loop (fun (i:Nat) m ds h'=>ds=[.fn 126 [ptr bq] []]/\i<=t.tests.length/\Ext h h'/\h'.get bp=some (.cells ([.slice ah t.rule.heat.length ch,.slice aw t.rule.wet.length cw,i64 t.rule.own,i64 t.rule.feed,i64 g0,i64 g1',i64 g2',i64 t.rule.lost,i64 t.first,.slice ad t.days.length cd,i64 t.start.lo,i64 t.start.hi,.slice ats t.tests.length ct]) 54 false)/\h'.get bq=some (.cells [i64 0,i64 0,i64 0] 150 false)/\(∀x∈t.tests.take i,testBad t x=false)/\AllK m [(1,ptr bp),(2,ptr bq),(4,i64 (t.days.length:Nat)),(56,.slice ats t.tests.length ct),(57,i64 (t.tests.length:Nat)),(58,i64 (i:Nat))]) (fun i=>t.tests.length-i) 0 ?_ ?_
 ·exact⟨rfl,Nat.zero_le _,hE,hg1,hg2,(fun _ hm=>nomatch hm),rfl,rfl,rfl,rfl,rfl,rfl,trivial⟩
 clear hE hg1 hg2
 rintro i m ds h9 ⟨rfl,hi,hE,hg1,hg2,hcl,hall⟩
 refine Wc_wf fun hw9=>?_
 refine Wc.le ?_ (Le.kn hall)
 refine zy ?_
 refine Wo_dec rfl rfl rfl rfl (A_lss rfl rfl) (fun hip=>?_) (fun hip=>?_)
 rotate_left
 ·have hii:i=t.tests.length:=by omega
  subst hii
  rw[List.take_length] at hcl
  have e:t.tests.any (testBad t)=false:=List.any_eq_false.2 fun x hx=>by rw[hcl x hx];simp
  rw[e,if_neg (fun x=>nomatch x)] at hD
  refine zy ?_
  refine Wo_store rfl Tsz.h rfl rfl hg2 rfl rfl rfl fun h7 hU7=>?_
  refine zy ?_
  exact Wc_ret (caught_ret (fault_end rfl rfl (hU7.ext hE hw h0q) (by rw[hD];exact hU7.at')))
 have hi':i<t.tests.length:=by omega
 obtain⟨bT,oT,oaT,rfl,hrow,_⟩:=TestR.at (RowsAt.ext (R:=TestR) (fun x _=>x) hTs hE) hi'
 have hbad:testBad t t.tests[i]=true->t.tests.any (testBad t)=true:=fun hb=>List.any_eq_true.2 ⟨_,List.getElem_mem hi',hb⟩
 refine zy ?_
 refine Wo_do rfl rfl rfl rfl (A_ix Und.h Tsz.h rfl rfl) ?_
 refine zy ?_
 refine Wo_alloc rfl rfl Zr.h fun hx4 hE4 hW4 hg6 hn4=>?_
 refine zy ?_
 refine Wo_store rfl Tsz.h rfl rfl hg6 rfl rfl rfl fun h4 hU4=>?_
 replace hE:Ext h h4:=hE.trans (hU4.ext hE4 hw9 (Nat.le_refl _))
 have hg14:=(hU4.ext hE4 hw9 (Nat.le_refl _)).get hg1
 have hg24:=(hU4.ext hE4 hw9 (Nat.le_refl _)).get hg2
 replace hg6:=hU4.at'
 clear hU4 hE4 hW4 hn4
 generalize h9.nx=b9 at *
 refine zy ?_
 refine Wo_bs rfl rfl Und.h Tsz.h Zr.h rfl rfl rfl rfl rfl fun h5 hE5 hW5 hg5 hx5=>?_
 refine Wo_callG rfl rfl rfl rfl rfl Bod.h rfl rfl (mustD1 hg5 (by decide)) (fun v h10 hv=>?_) (fun v h10 hv=>?_)
 rotate_left
 ·obtain⟨c7,hx,hE6⟩:=FR_pan1 hv
  exact fault_pan hx (hD.trans (if_pos (hbad (decide_eq_true (.inl c7))))) rfl rfl (hE6.get (hE5.get hg24)) ((hE.trans hE5).trans hE6) hw h0q
 obtain⟨c7,rfl,hE6⟩:=FR_ret1 (by decide) hv
 replace hE:=((hE.trans hE5).trans hE6)
 replace hg14:=hE6.get (hE5.get hg14)
 replace hg24:=hE6.get (hE5.get hg24)
 replace hg6:=hE6.get (hE5.get hg6)
 clear hv hE6 hE5 hg5 hx5 hW5
 refine zy ?_
 refine Wo_bs rfl rfl Und.h Tsz.h Zr.h rfl rfl rfl rfl rfl fun h5 hE5 hW5 hg5 hx5=>?_
 refine Wo_callG rfl rfl rfl rfl rfl Bod.h rfl rfl (mustD_sv (l:=[t.tests[i].grade,t.tests[i].error]) (lit_ints hg5 rfl) (show (2:Nat)<9223372036854775808 by decide) (by decide)) (fun v h11 hv=>?_) (fun v h11 hv=>?_)
 rotate_left
 ·obtain⟨c8,hx,hE6⟩:=FR_pan hv
  exact fault_pan hx (hD.trans (if_pos (hbad (decide_eq_true (.inr (by simpa using c8)))))) rfl rfl (hE6.get (hE5.get hg24)) ((hE.trans hE5).trans hE6) hw h0q
 obtain⟨c8,rfl,hE6⟩:=FR_ret (by decide) hv
 replace hE:=((hE.trans hE5).trans hE6)
 replace hg14:=hE6.get (hE5.get hg14)
 replace hg24:=hE6.get (hE5.get hg24)
 clear hv hE6 hE5 hg5 hx5 hW5
 have c8':¬((t.tests[i].grade<0\/3<t.tests[i].grade)\/(t.tests[i].error<0\/3<t.tests[i].error)):=fun hc=>by
  have:([t.tests[i].grade,t.tests[i].error].any fun n=>decide (n<0\/3<n))=true:=by simpa using hc
  rw[c8] at this;cases this
 refine zy ?_
 refine⟨i+1,(by show t.tests.length-(i+1)<t.tests.length-i;omega),rfl,hi',hE,hg14,hg24,fun x hx=>?_,rfl,rfl,rfl,rfl,rfl,rfl,trivial⟩
 rw[take_succ hi'] at hx
 rcases List.mem_append.1 hx with g|g
 ·exact hcl x g
 ·rw[List.mem_singleton.1 g]
  exact decide_eq_false (fun x=>x.elim c7 c8')
end Go.Dw
/- EO: contracts of decay: a task is opened. -/
namespace Go.Dw
open Go Go.Dx Go.Proofs
set_option maxRecDepth 100000
def DReelAt (h:Heap)(b:Nat)(t:DTask):Prop:=∃ah ch aw cw g0 g1 g2 ad cd ats ct a c op,t.rule.grades=[g0,g1,g2]/\h.get b=some (.cells [.slice ah t.rule.heat.length ch,.slice aw t.rule.wet.length cw,i64 t.rule.own,i64 t.rule.feed,i64 g0,i64 g1,i64 g2,i64 t.rule.lost,.slice ah t.rule.heat.length ch,.slice aw t.rule.wet.length cw,i64 t.rule.own,i64 t.rule.feed,i64 g0,i64 g1,i64 g2,i64 t.rule.lost,i64 t.first,.slice ad t.days.length cd,i64 t.start.lo,i64 t.start.hi,.slice ats t.tests.length ct,.slice a t.days.length c] 145 op) ∧
 RowsAt 2 PtR h ah t.rule.heat/\RowsAt 2 PtR h aw t.rule.wet/\RowsAt 4 DayR h ad t.days/\RowsAt 3 TestR h ats t.tests/\RowsAt 2 SpR h a ((List.range t.days.length).map (forceAt t))
theorem DReelAt.ext {h h':Heap}{b:Nat}{t:DTask}(a:DReelAt h b t)(he:Ext h h'):DReelAt h' b t:=by
 obtain⟨ah,ch,aw,cw,g0,g1,g2,ad,cd,ats,ct,a,c,op,e,h1,h2,h3,h4,h5,h6⟩:=a
 exact⟨ah,ch,aw,cw,g0,g1,g2,ad,cd,ats,ct,a,c,op,e,he.get h1,RowsAt.ext (R:=PtR) (fun x _=>x) h2 he,RowsAt.ext (R:=PtR) (fun x _=>x) h3 he,RowsAt.ext (R:=DayR) (fun x _=>x) h4 he,RowsAt.ext (R:=TestR) (fun x _=>x) h5 he,RowsAt.ext (R:=SpR) (fun x _=>x) h6 he⟩
def OpenR (t:DTask)(h:Heap)(v:Value):Prop:=(dErr t≠0/\v=.tuple ⟨[.pointer none,i64 (dErr t)]⟩)\/(dErr t=0/\∃b,v=.tuple ⟨[ptr b,i64 0]⟩/\DReelAt h b t)
theorem sp_rows {h0 h:Heap}{v:Value}{n:Nat}{f:Nat->Sp}(hF:FreshSl h0 h v 51 2 (cellsF n f) n):∃a c,v=.slice a n c/\RowsAt 2 SpR h a ((List.range n).map f):=by
 rcases hF with ⟨rfl,_,rfl⟩|⟨b,sp,op,rfl,hg,_⟩
 ·exact⟨none,0,rfl,fun i hi=>absurd hi (Nat.not_lt_zero i)⟩
 ·refine⟨some ⟨b,0,sp⟩,n,rfl,fun i hi=>?_⟩
  have hi':i<n:=by simpa using hi
  have hc:cut (cellsF n f) (i*2) 2=some (spC (f i)):=by
   have:=cut_flat (f:=fun k=>spC (f k)) (k:=2) (P:=List.range n) (i:=i) (by simpa using hi') fun _ _=>rfl
   rw[List.getElem_range] at this
   exact this
  refine⟨b,0,sp,rfl,_,rowAt_cells hg (by rw[Nat.zero_add];exact hc),?_⟩
  have e:((List.range n).map f)[i]=f i:=by simp only[List.getElem_map,List.getElem_range]
  rw[e];rfl
theorem fill145 (r0 r1 r2 r3 r4 r5 r6 r7 t0 t1 t2 t3 t4 t5 t6 t7 t8 t9 t10 t11 t12:Value) :
  Instr.fill ([(0,8),(8,13),(21,1)].toArray[·]?) (Value.agg ⟨[.slice none 0 0,.slice none 0 0,i64 0,i64 0,i64 0,i64 0,i64 0,i64 0,.slice none 0 0,.slice none 0 0,i64 0,i64 0,i64 0,i64 0,i64 0,i64 0,i64 0,.slice none 0 0,i64 0,i64 0,.slice none 0 0,.slice none 0 0]⟩).cells [(0,.agg ⟨[r0,r1,r2,r3,r4,r5,r6,r7]⟩),(1,.agg ⟨[t0,t1,t2,t3,t4,t5,t6,t7,t8,t9,t10,t11,t12]⟩)] =
   some ⟨[r0,r1,r2,r3,r4,r5,r6,r7,t0,t1,t2,t3,t4,t5,t6,t7,t8,t9,t10,t11,t12,.slice none 0 0]⟩:=by kernel_rfl
set_option maxHeartbeats 1000000 in
theorem open_sv {tr:List Value}{t:DTask}{h:Heap}(ht:DTaskAt h tr t)(hf:t.Fit) :
  Sv Tryz.prog 83 [.agg ⟨tr⟩] h (RetP fun v h'=>OpenR t h' v/\Ext h h'):=by
 have ht0:=ht
 obtain⟨rr,ad,cd,ats,ct,hr0,rfl,hDs,hTs⟩:=ht
 have hr:=hr0
 obtain⟨ah,ch,aw,cw,g0,g1',g2',hge,rfl,hPh,hPw⟩:=hr
 refine Sv_wf fun hw=>?_
 refine Sv_enter Tryz.func83 rfl (by rw[Tryz.ntmps83];rfl) ?_;show Wc Tryz.prog ⟨83,42,none⟩ _ _ _ _ _
 refine zy ?_
 refine Wo_box rfl rfl rfl fun h1 hE1 hW1 hg1 hn1=>?_
 generalize h.nx=b1 at *
 refine zy ?_
 refine Wo_callr rfl rfl rfl rfl rfl Bod.h rfl rfl (task_sv (ht0.ext hE1) hf) ?_
 rintro _ h2 ⟨p1,k1,rfl,hE2⟩
 replace hE1:=hE1.trans hE2
 replace hg1:=hE2.get hg1
 refine zy ?_
 refine Wo_allocStore rfl rfl Zr.h Tsz.h rfl (fun _=>rfl) rfl rfl rfl fun h3 hE3 hW3 hg4 hn3=>?_
 replace hE1:=hE1.trans hE3
 replace hg1:=hE3.get hg1
 generalize h2.nx=b4 at *
 refine zy ?_
 by_cases c0:dErr t=0
 rotate_left
 ·refine Wo_do rfl rfl rfl rfl (A_tt c0 (A_neq rfl rfl)) ?_
  refine zy ?_
  refine Wc_draw hmix [0,1,0,7] [0,1] (some 2) [([],(some 3)),([],none)] (by kernel_rfl) (by kernel_rfl) ?_
  refine z_f ?_;refine z_l ?_
  refine Wp_eff [] (by kernel_rfl) rfl (Stl_nil rfl) rfl nb rfl (W1_op rfl rfl (A_assign rfl) ?_)
  refine Wp_eff [0,1,2] (by kernel_rfl) rfl (by refine t_l 1 ?_;refine t_f 0 ?_;exact Stl_nil rfl) rfl nb rfl (W1_op rfl rfl (A_assign rfl) ?_)
  refine Wp_end (Stl_nil rfl) nb' ?_
  refine zy ?_
  exact Wc_ret (Lv_ret rfl ⟨.inl ⟨c0,rfl⟩,hE1⟩)
 refine Wo_do rfl rfl rfl rfl (A_ff (fun x=>x c0) (A_neq rfl rfl)) ?_
 refine Wo_nil ?_
 show Wc _ _ _ _ _ _ _
 refine Wc_wf fun hw3=>?_
 have hD:=d_ok c0
 have q1:rowAt h3 b1 0 8=some [.slice ah t.rule.heat.length ch,.slice aw t.rule.wet.length cw,i64 t.rule.own,i64 t.rule.feed,i64 g0,i64 g1',i64 g2',i64 t.rule.lost]:=rowAt_cells hg1 rfl
 have q2:rowAt h3 b1 0 13=some [.slice ah t.rule.heat.length ch,.slice aw t.rule.wet.length cw,i64 t.rule.own,i64 t.rule.feed,i64 g0,i64 g1',i64 g2',i64 t.rule.lost,i64 t.first,.slice ad t.days.length cd,i64 t.start.lo,i64 t.start.hi,.slice ats t.tests.length ct]:=rowAt_cells hg1 rfl
 refine zz ?_
 refine Wo_do rfl rfl rfl rfl (A_build rfl (fill145 _ _ _ _ _ _ _ _ _ _ _ _ _ _ _ _ _ _ _ _ _)) ?_
 refine Wo_box rfl rfl rfl fun h4 hE4 hW4 hg5 hn4=>?_
 have hO4:=((Own.nil h3 h3).newCe hw3 (Nat.le_refl _) hE4 hg5 (Nat.le_refl _)).nilSl 51 2
 have hg13:=hg1
 replace hg1:=hE4.get hg1
 have hE34:=hE4
 clear q1 q2 hg4 hE4 hW4 hn4 hg5
 generalize hb5:h3.nx=b5 at *
 refine zy ?_
 refine Wc_loop (fun (i:Nat) m ds h'=>ds=[]/\i<=t.days.length/\Ext h3 h'/\(∃v6,Own h3 h' [slI h3 v6 51 2 (cellsF i (forceAt t)) i,ceI b5 [.slice ah t.rule.heat.length ch,.slice aw t.rule.wet.length cw,i64 t.rule.own,i64 t.rule.feed,i64 g0,i64 g1',i64 g2',i64 t.rule.lost,.slice ah t.rule.heat.length ch,.slice aw t.rule.wet.length cw,i64 t.rule.own,i64 t.rule.feed,i64 g0,i64 g1',i64 g2',i64 t.rule.lost,i64 t.first,.slice ad t.days.length cd,i64 t.start.lo,i64 t.start.hi,.slice ats t.tests.length ct,v6] 145 false])/\AllK m [(1,ptr b1),(5,ptr b5),(21,.slice ad t.days.length cd),(22,i64 (t.days.length:Nat)),(23,i64 (i:Nat))]) (fun i=>t.days.length-i) 0 ?_ ?_
 ·exact⟨rfl,Nat.zero_le _,hE34,⟨_,hO4⟩,rfl,rfl,rfl,rfl,rfl,trivial⟩
 clear hE34 hO4
 rintro i m ds h5 ⟨rfl,hi,hE5,⟨v6,hO⟩,hall⟩
 refine Wc_wf fun hw5=>?_
 refine Wc.le ?_ (Le.kn hall)
 have hg5:h5.get b5=_:=hO.p2
 refine zy ?_
 refine Wo_dec rfl rfl rfl rfl (A_lss rfl rfl) (fun hip=>?_) (fun hip=>?_)
 rotate_left
 ·have hii:i=t.days.length:=by omega
  subst hii
  refine zy ?_
  obtain⟨a,c,rfl,hR⟩:=sp_rows hO.p1
  have hE15:=hE1.trans hE5
  exact Wc_ret (Lv_ret rfl ⟨.inr ⟨c0,b5,rfl,ah,ch,aw,cw,g0,g1',g2',ad,cd,ats,ct,a,c,false,hge,hg5,RowsAt.ext (R:=PtR) (fun x _=>x) hPh hE15,RowsAt.ext (R:=PtR) (fun x _=>x) hPw hE15,RowsAt.ext (R:=DayR) (fun x _=>x) hDs hE15,RowsAt.ext (R:=TestR) (fun x _=>x) hTs hE15,hR⟩,hE15⟩)
 have hi':i<t.days.length:=by omega
 obtain⟨bD,oD,oaD,rfl,hrow⟩:=DayR.at (RowsAt.ext (R:=DayR) (fun x _=>x) hDs (hE1.trans hE5)) hi'
 refine zy ?_
 refine Wo_do rfl rfl rfl rfl (A_ix Und.h Tsz.h rfl rfl) ?_
 refine zy ?_
 refine Wo_allocStore rfl rfl Zr.h Tsz.h rfl (fun _=>rfl) rfl rfl rfl fun h6 hE6 hW6 hg7 hn6=>?_
 refine Wo_nil ?_
 refine Wc_wf fun hw6=>?_
 have q1:=hE6.row (hE5.row (show rowAt h3 b1 0 8=some [.slice ah t.rule.heat.length ch,.slice aw t.rule.wet.length cw,i64 t.rule.own,i64 t.rule.feed,i64 g0,i64 g1',i64 g2',i64 t.rule.lost] from rowAt_cells hg13 rfl))
 have q3:=hE6.cell (show cellAt h5 b5 21=some v6 from cellAt_cells hg5 rfl)
 have hO6:=hO.ext hE6
 generalize hb7:h5.nx=b7 at *
 refine zy ?_
 have hfe:=forceAt_eq (t:=t) hi'
 refine Wc_draw hmix [0,0,2,6,14,0,32,0,224,480,1022,2047,4095,8191] [0,1,2,3,4,5,6,7] (some 8) [([9],(some 10)),([11,12],(some 13)),([],none)] (by kernel_rfl) (by kernel_rfl) ?_
 refine z_m ?_;refine z_m ?_;refine z_q ?_;refine z_f ?_;refine z_l ?_;refine z_f ?_;refine z_r ?_;refine z_r ?_
 refine Wp_eff (h1:=h6) [5,6,7] (by kernel_rfl) rfl (Stl_nil rfl) rfl rfl rfl (W1_wfK (W1_callE rfl rfl rfl rfl rfl Bod.h (strength_sv (hr0.ext ((hE1.trans hE5).trans hE6)) hD.rule (hD.days _ (List.getElem_mem hi'))) (fun h7 hE7 hw7=>?_)))
 rw[<-hfe]
 have hEa:=Ext.add hw7 (.cells [i64 (forceAt t i).lo,i64 (forceAt t i).hi] 51 false)
 have hO7:=(hO6.ext hE7).ext hEa
 have q1a:=hEa.row (hE7.row q1)
 have q3a:=hEa.cell (hE7.cell q3)
 have hg7a:=hEa.get (hE7.get hg7)
 have hdl:=hD.days1
 have hEr:=Ext.rsv h7
 have q3r:=hEr.cell (hE7.cell q3)
 have q1r:=hEr.row (hE7.row q1)
 refine Wp_new (nk:=.sl _ _) rfl rfl rfl rfl rfl (fun _ _ hs=>N_bs hs Und.h Tsz.h Zr.h rfl rfl rfl rfl rfl) ?_
 refine Wp_eff (h1:=(Heap.add h7 _)) [1,2,3,4,5,6,7,8,9] (by kernel_rfl) rfl (by refine t_l 4 ?_;refine t_f 3 ?_;refine t_q 2 ?_;refine t_m 1 ?_;refine t_m 0 ?_;exact Stl_nil rfl) rfl rfl rfl (W1_wfK (W1_appendO (by':=16) (sz:=2) (k:=1) (n:=i) (l:=[i64 (forceAt t i).lo,i64 (forceAt t i).hi]) rfl hw3 (((hE5.trans hE6).trans hE7).trans hEa) rfl rfl rfl rfl Und.h inferInstance rfl rfl hO7 ((FreshSl.lit (h0:=h3) (n:=1) (sz:=2) Heap.get_add_same rfl ((hE5.trans hE6).trans hE7).2.1).src (dd:=.slice 51) Und.h (by intro k;simp)) rfl rfl (by omega) (by omega) (fun v8 h8 hO8 hE8 hw8=>?_)))
 obtain⟨b8,sp8,rfl⟩:∃b sp,v8=.slice (some ⟨b,0,sp⟩) (i+1) (i+1):=by
  rcases hO8.p1 with ⟨_,_,h0⟩|⟨b8,sp8,op8,e,_⟩
  ·omega
  ·exact⟨b8,sp8,e⟩
 refine z_q ?_;refine z_f ?_
 refine Wp_eff (h1:=h8) [0,1,2,3,4,5,6,7,8,9,10,11,12] (by kernel_rfl) rfl (by refine t_m 0 ?_;exact Stl_nil rfl) rfl rfl rfl (W1_storeO rfl hw3 hE8 rfl Tsz.h rfl rfl hO8.up2 rfl rfl rfl (fun h9 hO9 hE9=>?_))
 refine Wp_end (h1:=h9) (Stl_nil rfl) rfl ?_
 refine zy ?_
 refine⟨i+1,(by show t.days.length-(i+1)<t.days.length-i;omega),rfl,hi',hE9,⟨.slice (some ⟨b8,0,sp8⟩) (i+1) (i+1),?_⟩,rfl,rfl,rfl,rfl,rfl,trivial⟩
 rw[cellsF_succ]
 exact hO9.up2
end Go.Dw
/- EP: contracts of decay: the tests by their day. -/
namespace Go.Dw
open Go Go.Dx Go.Proofs Go.Sort
set_option maxRecDepth 100000
theorem day_sv {x:DTest}{h:Heap}:Sv Tryz.prog 116 [.agg ⟨[i64 x.day,i64 x.grade,i64 x.error]⟩] h (RetP fun v h'=>v=i64 x.day/\Ext h h'):=by
 refine Sv_enter Tryz.func116 rfl (by rw[Tryz.ntmps116];rfl) ?_;show Wc Tryz.prog ⟨116,5,none⟩ _ _ _ _ _
 refine zz ?_
 refine Wo_box rfl rfl rfl fun h1 hE1 hW1 hg1 hn1=>?_
 refine zz ?_
 exact Wc_ret (Lv_ret rfl ⟨rfl,hE1⟩)
abbrev dayZ (t:DTask)(x:Int):Int:=(testAt t x.toNat).day
theorem byDay_sv {t:DTask}{a:Option Addr}{c bf bs:Nat}{of os:Bool}{h:Heap}(hT:RowsAt 3 TestR h a t.tests)(hf:h.get bf=some (.cells [.func (.func 116) ⟨[]⟩ ⟨[]⟩] 179 of))(hs:h.get bs=some (.cells [.slice a t.tests.length c] 52 os)){x y:Int}(hx:0<=x/\x<t.tests.length)(hy:0<=y/\y<t.tests.length) :
  Sv Tryz.prog 159 [i64 x,i64 y,ptr bf,ptr bs] h (RetP fun v h'=>v=i64 (cmpI (dayZ t x) (dayZ t y))/\Ext h h'):=by
 obtain⟨i,rfl⟩:∃k:Nat,x=k:=⟨x.toNat,by omega⟩
 obtain⟨j,rfl⟩:∃k:Nat,y=k:=⟨y.toNat,by omega⟩
 have hi:i<t.tests.length:=by omega
 have hj:j<t.tests.length:=by omega
 have ei:dayZ t (i:Nat)=t.tests[i].day:=by unfold dayZ;rw[Int.toNat_natCast,testAt_eq hi]
 have ej:dayZ t (j:Nat)=t.tests[j].day:=by unfold dayZ;rw[Int.toNat_natCast,testAt_eq hj]
 rw[ei,ej]
 obtain⟨b,o,oa,rfl,hr1,_⟩:=TestR.at hT hi
 obtain⟨b',o',oa',e,hr2,_⟩:=TestR.at hT hj
 cases e
 refine Sv_enter Tryz.func159 rfl (by rw[Tryz.ntmps159];rfl) ?_;show Wc Tryz.prog ⟨159,20,none⟩ _ _ _ _ _
 refine zz ?_
 refine Wc_draw hmix [0,0,0,6,14,31,0,0,0,384,896,2047,4095,8191] [0,1,2,3,4,6,7,8,9,10] (some 5) [([],(some 11)),([],(some 12)),([],(some 13)),([],none)] (by kernel_rfl) (by kernel_rfl) ?_
 refine z_l ?_;refine z_l ?_;refine z_m ?_;refine z_i ?_;refine z_r ?_;refine z_l ?_;refine z_l ?_;refine z_m ?_;refine z_i ?_;refine z_r ?_
 refine Wp_eff [0,1,2,3,4] (by kernel_rfl) rfl (Stl_nil rfl) rfl nb rfl (W1_callE rfl rfl rfl rfl rfl Bod.h day_sv (fun h1 hE1=>?_))
 have hf1:=hE1.get hf
 have hs1:=hE1.get hs
 have hr11:=hE1.row hr1
 have hr21:=hE1.row hr2
 refine Wp_eff [0,1,2,3,4,5,6,7,8,9,10] (by kernel_rfl) rfl (by refine t_r 10 ?_;refine t_i 9 ?_;refine t_m 8 ?_;refine t_l 7 ?_;refine t_l 6 ?_;exact Stl_nil rfl) rfl nb rfl (W1_callE rfl rfl rfl rfl rfl Bod.h day_sv (fun h2 hE2=>?_))
 have hf2:=hE2.get hf1
 have hs2:=hE2.get hs1
 have hr12:=hE2.row hr11
 have hr22:=hE2.row hr21
 refine Wp_eff [0,1,2,3,4,5,6,7,8,9,10,11] (by kernel_rfl) rfl (Stl_nil rfl) rfl nb rfl (W1_callE rfl rfl rfl rfl rfl Bod.h compare_sv (fun h3 hE3=>?_))
 have hf3:=hE3.get hf2
 have hs3:=hE3.get hs2
 have hr13:=hE3.row hr12
 have hr23:=hE3.row hr22
 refine Wp_eff [0,1,2,3,4,5,6,7,8,9,10,11,12] (by kernel_rfl) rfl (Stl_nil rfl) rfl nb rfl (W1_op rfl rfl (A_assign rfl) ?_)
 refine Wp_end (Stl_nil rfl) nb' ?_
 refine zz ?_
 exact Wc_ret (Lv_ret rfl ⟨rfl,(hE1.trans hE2).trans hE3⟩)
def dayLtZ (t:DTask)(x y:Int):Bool:=decide (dayZ t x<dayZ t y\/(dayZ t x=dayZ t y/\x<y))
theorem dayLtZ_swo (t:DTask):SWO (dayLtZ t):=by
 refine⟨fun x=>?_,fun x y z h1 h2=>?_,fun x y z h1 h2=>?_⟩
 ·exact decide_eq_false (by omega)
 ·have:=of_decide_eq_true h1;have:=of_decide_eq_true h2;exact decide_eq_true (by omega)
 ·have:=of_decide_eq_false h1;have:=of_decide_eq_false h2;exact decide_eq_false (by omega)
theorem ordDA {t:DTask}{d:Array Int}(hM:Merged (dayLtZ t) 0 (rangeA t.tests.length).size (rangeA t.tests.length) d):d.toList=ints (ordD t):=by
 obtain⟨⟨h1,-,h3⟩,h4⟩:=hM
 rw[rangeA_size] at h1 h3 h4
 have e1:(d.extract 0 t.tests.length).toList=d.toList:=by rw[ext_list,List.drop_zero,Nat.sub_zero,List.take_of_length_le (by rw[Array.length_toList];omega)]
 have e2:((rangeA t.tests.length).extract 0 t.tests.length).toList=ints (List.range t.tests.length):=by rw[ext_list,List.drop_zero,Nat.sub_zero,List.take_of_length_le (by rw[Array.length_toList,rangeA_size];omega)];rfl
 rw[e1,e2] at h3
 have hnn:∀x∈d.toList,0<=x:=fun x hx=>by
  obtain⟨r,_,rfl⟩:=List.mem_map.1 (h3.subset hx);omega
 have hnd:d.toList.Nodup:=h3.nodup_iff.2 (ints_nodup List.nodup_range)
 have hp:(natsL d.toList).Perm (List.range t.tests.length):=by
  have:=h3.map Int.toNat
  have e:(ints (List.range t.tests.length)).map Int.toNat=List.range t.tests.length:=natsL_cast _
  rw[e] at this
  exact this
 have hb:(natsL d.toList).Pairwise (dayLt t):=by
  unfold natsL
  rw[List.pairwise_map,List.pairwise_iff_getElem]
  intro i j hi hj hij
  rw[Array.length_toList] at hi hj
  have h5:=of_decide_eq_false (h4 i j (Nat.zero_le _) hij (by omega))
  have h6:=hnn _ (List.getElem_mem (l:=d.toList) (n:=i) (by simpa using hi))
  have h7:=hnn _ (List.getElem_mem (l:=d.toList) (n:=j) (by simpa using hj))
  have h8:d.toList[i]'(by simpa using hi)≠d.toList[j]'(by simpa using hj):=fun e=>by
   have:=(List.getElem_inj (h₀:=by simpa using hi) (h₁:=by simpa using hj) hnd).1 e
   omega
  rw[getElem!_pos d i hi,getElem!_pos d j hj] at h5
  rw[Array.getElem_toList] at h6 h7
  rw[Array.getElem_toList,Array.getElem_toList] at h8 ⊢
  unfold dayLt
  unfold dayZ at h5
  omega
 rw[<-ordD_eq hp hb]
 exact (ints_nats hnn).symm
theorem orderedD_sv {t:DTask}{a:Option Addr}{c:Nat}{h:Heap}(hw:WF h)(hT:RowsAt 3 TestR h a t.tests)(hr:t.tests.length<=20) :
  Sv Tryz.prog 115 [.slice a t.tests.length c,.func (.func 116) ⟨[]⟩ ⟨[]⟩] h (RetP fun v h'=>∃b,v=.slice (some ⟨b,0,none⟩) t.tests.length t.tests.length/\h'.get b=some (.cells ((ints (ordD t)).map i64) 3 false)/\h.nx<=b/\Ext h h'):=by
 refine Sv_enter Tryz.func115 rfl (by rw[Tryz.ntmps115];rfl) ?_;show Wc Tryz.prog ⟨115,24,none⟩ _ _ _ _ _
 refine zz ?_
 refine Wo_box rfl rfl rfl fun h1 hE1 hW1 hg1 hn1=>?_
 refine Wo_box rfl rfl rfl fun h2 hE2 hW2 hg2 hn2=>?_
 have hq:=hE1.2.1
 have hn12:h.nx≠h1.nx:=by omega
 replace hg1:=hE2.get hg1
 replace hE1:=hE1.trans hE2
 generalize hbs:h.nx=bs at hg1 hn12
 generalize h1.nx=bf at *
 refine zz ?_
 refine Wo_makeSlice (k:=t.tests.length) rfl rfl Und.h (by':=8) inferInstance Zr.h rfl rfl rfl (by omega) (by omega) fun h3 hE3 hW3 hg3 hx3=>?_
 have hge:h.nx<=h2.nx:=hE1.2.1
 have hne:bs≠h2.nx:=fun e=>by have:=hW2 _ _ hg1;omega
 have hne':bf≠h2.nx:=fun e=>by have:=hW2 _ _ hg2;omega
 generalize hbe:h2.nx=b at *
 have hg13:=hE3.get hg1
 refine zz ?_
 refine Wc_loop (fun (j:Nat) me ds h'=>ds=[]/\j<=t.tests.length/\∃L,h'.get b=some (.cells L 3 false)/\L.length=t.tests.length/\(∀i,i<j->L[i]?=some (i64 i))/\Exb (fun c=>c=b) h3 h'/\AllK me [(2,ptr bs),(3,ptr bf),(5,.slice (some ⟨b,0,none⟩) t.tests.length t.tests.length),(11,i64 t.tests.length),(12,i64 j)]) (fun j=>t.tests.length-j) 0 ?_ ?_
 ·refine⟨rfl,Nat.zero_le _,_,hg3,?_,(fun i hi=>by omega),Exb.refl _ _,rfl,rfl,rfl,rfl,rfl,trivial⟩
  rw[rep_length];exact Nat.mul_one _
 rintro j me ds h4 ⟨rfl,hj,L,hg4,hL,hLi,hX4,hall⟩
 refine Wc.le ?_ (Le.kn hall)
 refine zz ?_
 refine Wo_dec rfl rfl rfl rfl (A_lss rfl rfl) (fun hlt=>?_) (fun hlt=>?_)
 ·have hlt':j<t.tests.length:=by omega
  refine zz ?_
  refine Wo_do rfl rfl rfl rfl (A_ix Und.h Tsz.h rfl rfl) ?_
  refine zz ?_
  refine Wo_store rfl Tsz.h rfl rfl hg4 rfl rfl (lay_one (show 0+j*1<L.length by omega)) fun h5 hU5=>?_
  refine zz ?_
  refine⟨j+1,(by show t.tests.length-(j+1)<t.tests.length-j;omega),rfl,hlt',_,hU5.at',by rw[List.length_set];exact hL,fun i hi=>?_,hX4.upd hU5 rfl,rfl,rfl,rfl,rfl,rfl,trivial⟩
  rw[List.getElem?_set]
  by_cases e:j=i
  ·rw[if_pos (by omega),if_pos (by omega),e]
  ·rw[if_neg (by omega)];exact hLi i (by omega)
 have:j=t.tests.length:=by omega
 subst this
 have hLe:L=(rangeA t.tests.length).toList.map i64:=by
  apply List.ext_getElem?
  intro i
  by_cases hi:i<t.tests.length
  ·rw[hLi i hi];simp[rangeA,ints,hi]
  ·rw[List.getElem?_eq_none (by omega),List.getElem?_eq_none (by simp[rangeA,ints];omega)]
 subst hLe
 have hE24:Ext h2 h4:=hX4.ext hE3 hW2 fun c e=>by omega
 refine zz ?_
 let k:StabK:=⟨h4,b,t.tests.length,t.tests.length,none,false,159,[],[ptr bf,ptr bs],fun x y=>decide (cmpI (dayZ t x) (dayZ t y)<0),fun x=>0<=x/\x<t.tests.length⟩
 have hk:k.OK:=by
  refine⟨Bod.h,by show t.tests.length<=1000000;omega,fun hq hX x y hx hy=>?_⟩
  have hEq:Ext h2 hq:=Exb.ext (S:=fun c=>c=b) hX hE24 hW2 fun c e=>by omega
  refine (byDay_sv (RowsAt.ext (R:=TestR) (fun x _=>x) hT (hE1.trans hEq)) (hEq.get hg2) (hEq.get hg1) hx hy).mono fun r hr=>?_
  cases r with
  | ret v h5 =>
   obtain⟨rfl,hE5⟩:=hr
   refine⟨_,rfl,?_,hE5⟩
   show _ ↔ decide _=true
   rw[decide_eq_true_iff]
  | _=>exact hr.elim
 have hst:k.St (rangeA t.tests.length) h4:=⟨Exb.refl _ _,hg4,rangeA_size _,fun i hi=>by
  have hi:i<t.tests.length:=hi
  rw[rangeA_get hi]
  show (0:Int)<=i/\(i:Int)<t.tests.length
  omega⟩
 refine Wo_callr rfl rfl rfl rfl rfl Bod.h rfl rfl (sortStable_sv hk (dayLtZ_swo t) hst fun i j h5 h6=>?_) ?_
 ·rw[rangeA_size] at h6
  rw[rangeA_get h6,rangeA_get (show i<t.tests.length by omega)]
  show decide _=decide _
  unfold cmpI
  rw[decide_eq_decide]
  split
  ·omega
  ·split <;> omega
 rintro _ h6 ⟨rfl,d2,hM,hs2⟩
 have hE6:Ext h2 h6:=hs2.ex.ext hE24 hW2 fun c (e:c=b)=>by omega
 have hd:=ordDA hM
 have hg6:h6.get b=some (.cells (d2.toList.map i64) 3 false):=hs2.gt
 rw[hd] at hg6
 refine zz ?_
 exact Wc_ret (Lv_ret rfl ⟨b,rfl,hg6,by omega,hE1.trans hE6⟩)
end Go.Dw
/- EQ: contracts of decay: the mornings, what a level is some mornings later. -/
namespace Go.Dw
open Go Go.Dx Go.Proofs
set_option maxRecDepth 100000
structure MornF (t:DTask)(bR bN c1 c2 c3 c4 i0 n:Nat)(h:Heap)(s:Sp):Prop where
 reel:DReelAt h bR t
 g1:h.get c1=some (.cells [i64 (i0:Nat)] 3 false)
 g2:h.get c2=some (.cells [i64 (n:Nat)] 3 false)
 g3:h.get c3=some (.cells [ptr bR] 141 false)
 g4:h.get c4=some (.cells [ptr bN] 183 false)
 gN:h.get bN=some (.cells [i64 s.lo,i64 s.hi] 51 false)
 ok:SpOk s
theorem mornings_sv {bR bN:Nat}{x y:Int}{h:Heap}:Sv Tryz.prog 117 [ptr bR,ptr bN,i64 x,i64 y] h (RetP fun v h'=>∃c1 c2 c3 c4,v=.func (.func 160) ⟨[]⟩ ⟨[ptr c1,ptr c2,ptr c3,ptr c4]⟩/\Ext h h'/\Own h h' [ceI c1 [i64 x] 3 false,ceI c2 [i64 y] 3 false,ceI c4 [ptr bN] 183 false,ceI c3 [ptr bR] 141 false]):=by
 refine Sv_wf fun hw=>?_
 refine Sv_enter Tryz.func117 rfl (by rw[Tryz.ntmps117];rfl) ?_;show Wc Tryz.prog ⟨117,10,none⟩ _ _ _ _ _
 refine zz ?_
 refine Wo_box rfl rfl rfl fun h1 hE1 hW1 hg1 hn1=>?_
 have hO1:=(Own.nil h h).newCe hw (Nat.le_refl _) hE1 hg1 (Nat.le_refl _)
 refine Wo_box rfl rfl rfl fun h2 hE2 hW2 hg2 hn2=>?_
 have hO2:=hO1.newCe hW1 hE1.2.1 hE2 hg2 (Nat.le_refl _)
 replace hE1:=hE1.trans hE2
 refine Wo_box rfl rfl rfl fun h3 hE3 hW3 hg3 hn3=>?_
 have hO3:=hO2.newCe hW2 hE1.2.1 hE3 hg3 (Nat.le_refl _)
 replace hE1:=hE1.trans hE3
 refine Wo_box rfl rfl rfl fun h4 hE4 hW4 hg4 hn4=>?_
 have hO4:=hO3.newCe hW3 hE1.2.1 hE4 hg4 (Nat.le_refl _)
 replace hE1:=hE1.trans hE4
 refine zz ?_
 exact Wc_ret (Lv_ret rfl ⟨_,_,_,_,rfl,hE1,hO4.up2⟩)
theorem sp_row {h:Heap}{a:Option Addr}{n i:Nat}{f:Nat->Sp}(hR:RowsAt 2 SpR h a ((List.range n).map f))(hi:i<n):∃b o oa,a=some ⟨b,o,oa⟩/\rowAt h b (o+i*2) 2=some [i64 (f i).lo,i64 (f i).hi]/\cellAt h b (o+i*2+0)=some (i64 (f i).lo)/\cellAt h b (o+i*2+1)=some (i64 (f i).hi):=by
 have hl:i<((List.range n).map f).length:=by simpa using hi
 obtain⟨b,o,oa,e,h1,h2,h3⟩:=SpR.at hR hl
 have:((List.range n).map f)[i]=f i:=by simp only[List.getElem_map,List.getElem_range]
 rw[this] at h1 h2 h3
 exact⟨b,o,oa,e,h1,h2,h3⟩
set_option maxHeartbeats 2000000 in
theorem mornIter_sv {t:DTask}{l bR bN c1 c2 c3 c4 i0 n:Nat}{h:Heap}(hD:DOk t)(hn:n<=t.days.length)(hi0:i0<=n)(J J':Nat->Heap->Prop)(K:Heap->Prop)
  (h1:h.get c1=some (.cells [i64 (i0:Nat)] 3 false)) (hJ0:J i0 h)
  (hJ':∀i h',i0<=i->i<=n->J' i h'->∃s,MornF t bR bN c1 c2 c3 c4 i0 n h' s/\(i<n->∀h2 h3,Ext h' h2->WF h2->Upd h2 bN (.cells [i64 (growS t.rule (forceAt t i) s).lo,i64 (growS t.rule (forceAt t i) s).hi] 51 false) h3->J (i+1) h3))
  (hy:∀i h',i0<=i->i<=n->J i h'->Yd Tryz.prog l [i64 (i:Nat)] h' (fun v h''=>(v=.bool true/\J' i h'')\/(v=.bool false/\K h''))) :
  Sv Tryz.prog 160 [.func (.yield l) ⟨[]⟩ ⟨[]⟩,ptr c1,ptr c2,ptr c3,ptr c4] h (RetP fun _ h'=>J' n h'\/K h'):=by
 have hd1:=hD.days1
 refine Sv_enter Tryz.func160 rfl (by rw[Tryz.ntmps160];rfl) ?_;show Wc Tryz.prog ⟨160,55,none⟩ _ _ _ _ _
 refine zz ?_
 refine Wc_loop (fun (i:Nat) m ds h'=>ds=[]/\i0<=i/\i<=n/\J i h'/\AllK m [(0,.func (.yield l) ⟨[]⟩ ⟨[]⟩),(1,ptr c1),(2,ptr c2),(3,ptr c3),(4,ptr c4),(6,i64 (i:Nat))]) (fun i=>n-i) i0 ?_ ?_
 ·exact⟨rfl,Nat.le_refl _,hi0,hJ0,rfl,rfl,rfl,rfl,rfl,rfl,trivial⟩
 clear hJ0 h1 h
 rintro i m ds h1 ⟨rfl,hi,hin,hJ,hall⟩
 refine Wc.le ?_ (Le.kn hall)
 refine zz ?_
 refine Wo_yield rfl rfl rfl rfl rfl rfl rfl (hy i h1 hi hin hJ) ?_
 rintro v h2 (⟨rfl,hJ2⟩|⟨rfl,hK⟩)
 rotate_left
 ·refine zz ?_
  exact Lv_normal rfl (.inr hK)
 obtain⟨s,hM,hnext⟩:=hJ' i h2 hi hin hJ2
 have g1:=hM.g1
 have g2:=hM.g2
 have g3:=hM.g3
 have g4:=hM.g4
 have gN:=hM.gN
 refine zz ?_
 refine Wo_dec rfl rfl rfl rfl (A_lss rfl rfl) (fun hip=>?_) (fun hip=>?_)
 rotate_left
 ·have:i=n:=by omega
  subst this
  refine zz ?_
  exact Lv_normal rfl (.inl hJ2)
 have hip':i<n:=by omega
 refine zz ?_
 obtain⟨ah,ch,aw,cw,g0,g1',g2',ad,cd,ats,ct,aS,cS,op,hge,hgR,hPh,hPw,hDs,hTs,hSs⟩:=hM.reel
 obtain⟨bS,oS,oaS,rfl,hrow,_,_⟩:=sp_row hSs (show i<t.days.length by omega)
 have hr:RuleAt h2 [.slice ah t.rule.heat.length ch,.slice aw t.rule.wet.length cw,i64 t.rule.own,i64 t.rule.feed,i64 g0,i64 g1',i64 g2',i64 t.rule.lost] t.rule:=⟨ah,ch,aw,cw,g0,g1',g2',hge,rfl,hPh,hPw⟩
 have hst:=force_ok hD (i:=i) (by omega)
 have k1:=hM.ok.lo
 have k2:=hM.ok.le
 have k3:=hM.ok.hi
 refine zz ?_
 refine Wc_draw hmix [0,0,2,6,14,0,32,96,224,0,992,2016,0,4096,12288,28672,65534,131070,0,262144,786432,1835008,0,4194304,12582912,29360128,0,130023424,264241152,0,536870912,1610612736,3758096384,8589803518,17179738110,34359738366,68719476735,137438953471] [0,1,2,3,4,5,6,7,8,9,10,11,12,13,14,15,18,19,20,21,22,23,24,25,26,27,28,29,30,31,32] (some 16) [([17],(some 33)),([34,35,36],(some 37)),([],none)] (by kernel_rfl) (by kernel_rfl) ?_
 refine z_l ?_;refine z_l ?_;refine z_q ?_;refine z_f ?_;refine z_r ?_;refine z_l ?_;refine z_q ?_;refine z_f ?_;refine z_l ?_;refine z_m ?_;refine z_i ?_;refine z_r ?_;refine z_l ?_;refine z_q ?_;refine z_f ?_;refine z_l ?_;refine z_l ?_;refine z_q ?_;refine z_f ?_;refine z_r ?_;refine z_l ?_;refine z_q ?_;refine z_f ?_;refine z_l ?_;refine z_m ?_;refine z_i ?_;refine z_r ?_;refine z_l ?_;refine z_q ?_;refine z_f ?_;refine z_l ?_
 refine Wp_eff [1,2,3,4,5,6,7,8,9,10,11,12,13,14,15] (by kernel_rfl) rfl (Stl_nil rfl) rfl nb rfl (W1_callE rfl rfl rfl rfl rfl Bod.h (gains_sv hr hD.rule hst k1 (by omega)) (fun h3 hE3=>?_))
 have g23:=hE3.get g2
 have g33:=hE3.get g3
 have g43:=hE3.get g4
 have gN3:=hE3.get gN
 have gR3:=hE3.get hgR
 have hrow3:=hE3.row hrow
 refine z_j ?_
 refine Wp_eff [1,2,3,4,5,6,7,8,9,10,11,12,13,14,15,16,18,19,20,21,22,23,24,25,26,27,28,29,30,31,32] (by kernel_rfl) rfl (by refine t_l 32 ?_;refine t_f 31 ?_;refine t_q 30 ?_;refine t_l 29 ?_;refine t_r 28 ?_;refine t_i 27 ?_;refine t_m 26 ?_;refine t_l 25 ?_;refine t_f 24 ?_;refine t_q 23 ?_;refine t_l 22 ?_;refine t_r 21 ?_;refine t_f 20 ?_;refine t_q 19 ?_;refine t_l 18 ?_;refine t_l 0 ?_;exact Stl_nil rfl) rfl nb rfl (W1_wfK (W1_callE rfl rfl rfl rfl rfl Bod.h (gains_sv (hr.ext hE3) hD.rule hst (show 0<=s.hi by omega) k3) (fun h4 hE4 hw4=>?_)))
 have g24:=hE4.get g23
 have g34:=hE4.get g33
 have g44:=hE4.get g43
 have gN4:=hE4.get gN3
 have gR4:=hE4.get gR3
 have hrow4:=hE4.row hrow3
 refine z_j ?_;refine z_b ?_;refine z_q ?_
 refine Wp_eff [0,1,2,3,4,5,6,7,8,9,10,11,12,13,14,15,16,17,18,19,20,21,22,23,24,25,26,27,28,29,30,31,32,33,34,35,36] (by kernel_rfl) rfl (by refine t_j 17 ?_;refine t_l 0 ?_;exact Stl_nil rfl) rfl nb rfl (W1_store rfl rfl Tsz.h rfl rfl gN4 rfl rfl rfl (fun h5 hU5=>?_))
 refine Wp_end (Stl_nil rfl) nb' ?_
 refine zz ?_
 exact⟨i+1,(by show n-(i+1)<n-i;omega),rfl,by omega,hip',hnext hip' h4 h5 (hE3.trans hE4) hw4 hU5,rfl,rfl,rfl,rfl,rfl,rfl,trivial⟩
end Go.Dw
/- ER: contracts of decay: what a level is some mornings later. -/
namespace Go.Dw
open Go Go.Dx Go.Proofs
set_option maxRecDepth 100000
set_option maxHeartbeats 2000000 in
theorem afterD_sv {t:DTask}{bR i0 n:Nat}{s:Sp}{x y:Int}{h:Heap}(hr:DReelAt h bR t)(hD:DOk t)(hn:n<=t.days.length)(hi0:i0<=n)(hs0:SpOk s)(hx:x=(i0:Nat))(hy:y=(n:Nat)) :
  Sv Tryz.prog 121 [ptr bR,spV s,i64 x,i64 y] h (RetP fun v h'=>v=spV (onS t s i0 (n-i0))/\Ext h h'):=by
 subst hx hy
 refine Sv_wf fun hw=>?_
 refine Sv_enter Tryz.func121 rfl (by rw[Tryz.ntmps121];rfl) ?_;show Wc Tryz.prog ⟨121,15,none⟩ _ _ _ _ _
 refine zz ?_
 refine Wo_box rfl rfl rfl fun h1 hE1 hW1 hg5 hn1=>?_
 refine Wo_alloc rfl rfl Zr.h fun h2 hE2 hW2 hg8 hn2=>?_
 have h05:h.nx<=h.nx:=Nat.le_refl _
 have h08:h.nx<=h1.nx:=hE1.2.1
 have hne:h.nx≠h1.nx:=by omega
 have hE02:=hE1.trans hE2
 replace hg5:=hE2.get hg5
 generalize hb5:h.nx=b5 at hg5 hne h05
 generalize hb8:h1.nx=b8 at *
 refine zz ?_
 refine Wo_callr rfl rfl rfl rfl rfl Bod.h rfl rfl mornings_sv ?_
 rintro _ h3 ⟨c1,c2,c3,c4,rfl,hE3,hO⟩
 have hE03:=hE02.trans hE3
 replace hg5:=hE3.get hg5
 replace hg8:=hE3.get hg8
 have l1:=hO.lo _ (List.mem_of_getElem? (i:=0) rfl) c1 rfl
 have l2:=hO.lo _ (List.mem_of_getElem? (i:=1) rfl) c2 rfl
 have l3:=hO.lo _ (List.mem_of_getElem? (i:=3) rfl) c3 rfl
 have l4:=hO.lo _ (List.mem_of_getElem? (i:=2) rfl) c4 rfl
 have k1:h3.get c1=_:=hO.p1
 have k2:h3.get c2=_:=hO.p2
 have k4:h3.get c4=_:=hO.p3
 have k3:h3.get c3=_:=hO.p4
 have u5:b5<h2.nx:=by omega
 refine Wo_wf fun hw3=>?_
 have m1:=hw3 _ _ k1
 have m2:=hw3 _ _ k2
 have m3:=hw3 _ _ k3
 have m4:=hw3 _ _ k4
 have m5:=hw3 _ _ hg5
 have m8:=hw3 _ _ hg8
 refine zz ?_
 refine Wc_rangeL rfl rfl Bod.h (fun e hs hL hEL hWL hnL hLr hLl=>?_)
 have hE0L:=hE03.trans hEL
 generalize hlp:h3.nx+1=lp at *
 have hg5L:=hEL.get hg5
 have hg8L:=hEL.get hg8
 have k1L:=hEL.get k1
 have k2L:=hEL.get k2
 have k3L:=hEL.get k3
 have k4L:=hEL.get k4
 generalize hrec:AO.loop LoopState.ready none _ _ _ _ _ _ _=rec at hLl
 let S:Nat->Prop:=fun b=>b=b5\/b=lp
 let J:Nat->Heap->Prop:=fun i h'=>Exb S hL h'/\h'.get lp=some rec/\h'.get b5=some (.cells [i64 (onS t s i0 (i-i0)).lo,i64 (onS t s i0 (i-i0)).hi] 51 false)
 have hS:∀b,S b->h.nx<=b:=fun b hb=>by rcases hb with e|e <;> omega
 refine (mornIter_sv (t:=t) (l:=lp) (bR:=bR) (bN:=b5) (c1:=c1) (c2:=c2) (c3:=c3) (c4:=c4) (i0:=i0) (n:=n) hD hn hi0 J J (fun _=>False) k1L ⟨Exb.refl _ _,hLl,by rw[Nat.sub_self];exact hg5L⟩ (fun i h4 hi1 hi2 hJ=>?_) (fun i h4 hi1 hi2 hJ=>?_)).ret ?_
 ·obtain⟨hX,hl,hb⟩:=hJ
  refine⟨onS t s i0 (i-i0),⟨hr.ext (hX.ext hE0L hw hS),hX.get (fun x=>by rcases x with e|e <;> omega) k1L,hX.get (fun x=>by rcases x with e|e <;> omega) k2L,hX.get (fun x=>by rcases x with e|e <;> omega) k3L,hX.get (fun x=>by rcases x with e|e <;> omega) k4L,hb,on_ok hD hs0 (by omega)⟩,fun hin h5 h6 hE5 _ hU6=>⟨(hX.trans (Exb.of hE5)).upd hU6 (.inl rfl),hU6.get (by omega) (hE5.get hl),?_⟩⟩
  have:=onS_succ t (i-i0) s i0
  rw[show i0+(i-i0)=i by omega,show i-i0+1=i+1-i0 by omega] at this
  rw[this]
  exact hU6.at'
 ·obtain⟨hX,hl,hb⟩:=hJ
  subst hrec
  refine Yd_intro hl hs rfl rfl ?_
  refine Wc_skip ⟨rfl,rfl,_,_,_,_,_,_,_,_,hl,?_⟩
  generalize hAO:AO.loop LoopState.busy _ _ _ _ _ _ _ _=bo
  have hU:=Upd.mk' h4 lp bo
  generalize h4.set lp bo=h5 at *
  refine zz ?_
  subst hAO
  refine⟨none,.busy,none,_,_,_,_,_,_,_,rfl,hU.at',.inl ⟨rfl,?_⟩⟩
  have hU2:=Upd.mk' h5 lp (.loop .ready none 121 15 e #[13] .skip (.block 1 .skip) h3.nx)
  exact⟨(hX.upd hU (.inr rfl)).upd hU2 (.inr rfl),hU2.at',hU2.get (by omega) (hU.get (by omega) hb)⟩
 ·rintro _ h4 (⟨hX,hl,hb⟩|hf)
  rotate_left
  ·exact hf.elim
  subst hrec
  refine⟨.ready,none,_,_,_,_,_,_,_,hl,by simp,fun _=>?_,fun c hc=>nomatch hc⟩
  have hU:=Upd.mk' h4 lp (.loop .exhausted none 121 15 e #[13] .skip (.block 1 .skip) h3.nx)
  have hb6:=hU.get (show b5≠lp by omega) hb
  have hX2:=hX.upd hU (.inr rfl)
  have hg86:=hX2.get (fun x=>by rcases x with e|e <;> omega) hg8L
  have hLr6:=hX2.get (b:=h3.nx) (fun x=>by rcases x with e|e <;> omega) hLr
  generalize h4.set lp _=h6 at *
  show Wc _ _ _ _ _ _ _
  refine zz ?_
  refine Wo_store rfl Tsz.h rfl rfl hg86 rfl rfl rfl fun h7 hU7=>?_
  have hLr7:=hU7.get (show h3.nx≠b8 by omega) hLr6
  have hE7:Ext h h7:=hU7.ext (hX2.ext hE0L hw hS) hw h08
  have hg87:=hU7.at'
  refine zz ?_
  have hdel:(delL h7 [h3.nx]).get b8=some (.cells [i64 (onS t s i0 (n-i0)).lo,i64 (onS t s i0 (n-i0)).hi] 51 false):=by
   rw[delL_get (by simp;omega)];exact hg87
  refine Wc_ret (Lv_retC (rs:=[h3.nx]) (by simp) (fun x hx=>?_) (resk_cell rfl (aload_row RowC.h (rowAt_cells hdel rfl)) rfl) ⟨rfl,hE7.delL hw (fun x hx=>?_)⟩)
  ·rw[List.mem_singleton.1 hx];exact hLr7
  ·rw[List.mem_singleton.1 hx];exact hE03.2.1
end Go.Dw
/- ES: contracts: slices.Backward over ints, over spans. -/
namespace Go.Dw
open Go Go.Dx Go.Proofs
set_option maxRecDepth 100000
theorem backI_sv {a:Option Addr}{n c:Nat}{h:Heap}:Sv Tryz.prog 120 [.slice a n c] h (RetP fun r h'=>∃c1,r=.func (.func 161) ⟨[]⟩ ⟨[ptr c1]⟩/\Ext h h'/\h.nx<=c1/\h'.get c1=some (.cells [.slice a n c] 31 false)):=by
 refine Sv_enter Tryz.func120 rfl (by rw[Tryz.ntmps120];rfl) ?_;show Wc Tryz.prog ⟨120,4,none⟩ _ _ _ _ _
 refine zz ?_
 refine Wo_box rfl rfl rfl fun h1 hE1 hW1 hg1 hn1=>?_
 refine zz ?_
 exact Wc_ret (Lv_ret rfl ⟨_,rfl,hE1,Nat.le_refl _,hg1⟩)
theorem backS_sv {a:Option Addr}{n c:Nat}{h:Heap}:Sv Tryz.prog 122 [.slice a n c] h (RetP fun r h'=>∃c1,r=.func (.func 162) ⟨[]⟩ ⟨[ptr c1]⟩/\Ext h h'/\h.nx<=c1/\h'.get c1=some (.cells [.slice a n c] 84 false)):=by
 refine Sv_enter Tryz.func122 rfl (by rw[Tryz.ntmps122];rfl) ?_;show Wc Tryz.prog ⟨122,4,none⟩ _ _ _ _ _
 refine zz ?_
 refine Wo_box rfl rfl rfl fun h1 hE1 hW1 hg1 hn1=>?_
 refine zz ?_
 exact Wc_ret (Lv_ret rfl ⟨_,rfl,hE1,Nat.le_refl _,hg1⟩)
theorem backIterI_sv {l c1 c:Nat}{a:Option Addr}{L:List Int}{h:Heap}(hL:L.length<=1000000)(J:Nat->Heap->Prop)(K:Heap->Prop)(hJ0:J 0 h)
  (hJ:∀k h',J k h'->h'.get c1=some (.cells [.slice a L.length c] 31 false)/\IntsAt h' a L)
  (hy:∀k h' (hk:k<L.length),J k h'->Yd Tryz.prog l [i64 ((L.length-1-k:Nat):Int),i64 (L[L.length-1-k]'(by omega))] h' (fun v h''=>(v=.bool true/\J (k+1) h'')\/(v=.bool false/\K h''))) :
  Sv Tryz.prog 161 [.func (.yield l) ⟨[]⟩ ⟨[]⟩,ptr c1] h (RetP fun _ h'=>J L.length h'\/K h'):=by
 obtain⟨g1,_⟩:=hJ _ _ hJ0
 refine Sv_enter Tryz.func161 rfl (by rw[Tryz.ntmps161];rfl) ?_;show Wc Tryz.prog ⟨161,19,none⟩ _ _ _ _ _
 refine zz ?_
 refine Wc_loop (fun (k:Nat) m ds h'=>ds=[]/\k<=L.length/\J k h'/\∃x:Int,x=(L.length:Int)-1-k/\AllK m [(0,.func (.yield l) ⟨[]⟩ ⟨[]⟩),(1,ptr c1),(3,i64 x)]) (fun k=>L.length-k) 0 ?_ ?_
 ·exact⟨rfl,Nat.zero_le _,hJ0,_,(by omega),rfl,rfl,rfl,trivial⟩
 clear hJ0 g1
 rintro k m ds h1 ⟨rfl,hk,hJ1,x,hx,hall⟩
 obtain⟨g1,hI⟩:=hJ _ _ hJ1
 refine Wc.le ?_ (Le.kn hall)
 refine zz ?_
 refine Wo_dec rfl rfl rfl rfl (A_geq rfl rfl) (fun hxp=>?_) (fun hxp=>?_)
 rotate_left
 ·have:k=L.length:=by omega
  subst this
  refine zz ?_
  exact Lv_normal rfl (.inl hJ1)
 have hk':k<L.length:=by omega
 obtain⟨y,rfl⟩:∃y:Nat,x=y:=⟨x.toNat,by omega⟩
 have hyk:y=L.length-1-k:=by omega
 obtain⟨b,o,oa,rfl,hc⟩:=hI y (by omega)
 have hyd:=hy k h1 hk' hJ1
 simp only[<-hyk] at hyd
 refine zz ?_
 refine Wo_do rfl rfl rfl rfl (A_ix Und.h Tsz.h rfl rfl) ?_
 refine zz ?_
 refine Wo_yield rfl rfl rfl rfl rfl rfl rfl hyd ?_
 rintro v h2 (⟨rfl,hJ2⟩|⟨rfl,hK⟩)
 rotate_left
 ·refine zz ?_
  exact Wc_ret (Lv_ret rfl (.inr hK))
 refine zz ?_
 exact⟨k+1,(by show L.length-(k+1)<L.length-k;omega),rfl,hk',hJ2,_,(by omega),rfl,rfl,rfl,trivial⟩
theorem backIterS_sv {l c1 c n:Nat}{a:Option Addr}{f:Nat->Sp}{h:Heap}(hL:n<=1000000)(J:Nat->Heap->Prop)(K:Heap->Prop)(hJ0:J 0 h)
  (hJ:∀k h',J k h'->h'.get c1=some (.cells [.slice a n c] 84 false)/\RowsAt 2 SpR h' a ((List.range n).map f))
  (hy:∀k h',k<n->J k h'->Yd Tryz.prog l [i64 ((n-1-k:Nat):Int),spV (f (n-1-k))] h' (fun v h''=>(v=.bool true/\J (k+1) h'')\/(v=.bool false/\K h''))) :
  Sv Tryz.prog 162 [.func (.yield l) ⟨[]⟩ ⟨[]⟩,ptr c1] h (RetP fun _ h'=>J n h'\/K h'):=by
 obtain⟨g1,_⟩:=hJ _ _ hJ0
 refine Sv_enter Tryz.func162 rfl (by rw[Tryz.ntmps162];rfl) ?_;show Wc Tryz.prog ⟨162,19,none⟩ _ _ _ _ _
 refine zz ?_
 refine Wc_loop (fun (k:Nat) m ds h'=>ds=[]/\k<=n/\J k h'/\∃x:Int,x=(n:Int)-1-k/\AllK m [(0,.func (.yield l) ⟨[]⟩ ⟨[]⟩),(1,ptr c1),(3,i64 x)]) (fun k=>n-k) 0 ?_ ?_
 ·exact⟨rfl,Nat.zero_le _,hJ0,_,(by omega),rfl,rfl,rfl,trivial⟩
 clear hJ0 g1
 rintro k m ds h1 ⟨rfl,hk,hJ1,x,hx,hall⟩
 obtain⟨g1,hI⟩:=hJ _ _ hJ1
 refine Wc.le ?_ (Le.kn hall)
 refine zz ?_
 refine Wo_dec rfl rfl rfl rfl (A_geq rfl rfl) (fun hxp=>?_) (fun hxp=>?_)
 rotate_left
 ·have:k=n:=by omega
  subst this
  refine zz ?_
  exact Lv_normal rfl (.inl hJ1)
 have hk':k<n:=by omega
 obtain⟨y,rfl⟩:∃y:Nat,x=y:=⟨x.toNat,by omega⟩
 have hyk:y=n-1-k:=by omega
 obtain⟨b,o,oa,rfl,hrow,_,_⟩:=sp_row hI (show y<n by omega)
 have hyd:=hy k h1 hk' hJ1
 simp only[<-hyk] at hyd
 refine zz ?_
 refine Wo_do rfl rfl rfl rfl (A_ix Und.h Tsz.h rfl rfl) ?_
 refine zz ?_
 refine Wo_yield rfl rfl rfl rfl rfl rfl rfl hyd ?_
 rintro v h2 (⟨rfl,hJ2⟩|⟨rfl,hK⟩)
 rotate_left
 ·refine zz ?_
  exact Wc_ret (Lv_ret rfl (.inr hK))
 refine zz ?_
 exact⟨k+1,(by show n-(k+1)<n-k;omega),rfl,hk',hJ2,_,(by omega),rfl,rfl,rfl,trivial⟩
end Go.Dw
/- ET: decay with no program in sight: what a morning's tests leave. -/
namespace Go.Dw
open Go Go.Dx Go.Proofs
abbrev bCells (B:List (Nat×Int)):List Value:=B.flatMap fun x=>[i64 (x.1:Nat),i64 x.2]
theorem mem_ofDay {t:DTask}{i k:Nat}(h:k∈ofDay t i):k<t.tests.length/\(testAt t k).day=t.first+i:=by
 obtain⟨h1,h2⟩:=List.mem_filter.1 h
 exact⟨mem_ordD.1 h1,of_decide_eq_true h2⟩
theorem mem_fromD {t:DTask}{i k:Nat}(h:k∈fromD t i):k<t.tests.length/\t.first+i<=(testAt t k).day:=by
 obtain⟨h1,h2⟩:=List.mem_filter.1 h
 exact⟨mem_ordD.1 h1,of_decide_eq_true h2⟩
theorem mid_good {t:DTask}(hD:DOk t){i:Nat}(hi:i<=t.days.length){P:List Nat}(hP:∀k∈P,k∈ofDay t i):SpOk (P.foldl (tryD t) (preD t i)).now/\∀k∈(P.foldl (tryD t) (preD t i)).good,k<t.tests.length/\dayN t k<=i:=by
 obtain⟨h1,_,_,N,h4,h5,_⟩:=tries t P (preD t i) (pre_ok hD hi)
 refine⟨h1,fun k hk=>?_⟩
 rw[h5] at hk
 rcases List.mem_append.1 hk with g|g
 ·cases i with
  | zero=>cases g
  | succ i =>
   obtain⟨h6,_⟩:=goods hD (j:=i) (by omega)
   have:=h6 k g
   exact⟨this.2,by omega⟩
 ·have:=mem_ofDay (hP k (h4.subset g))
  exact⟨this.1,by unfold dayN;rw[this.2];omega⟩
theorem tryD_ok {t:DTask}{st:KSt}{k:Nat}(h:(meetS st.now (keepT t k)).lo<=(meetS st.now (keepT t k)).hi):tryD t st k=⟨meetS st.now (keepT t k),st.good++[k],st.bad⟩:=if_pos h
theorem tryD_bad {t:DTask}{st:KSt}{k:Nat}(h:¬(meetS st.now (keepT t k)).lo<=(meetS st.now (keepT t k)).hi):tryD t st k=⟨st.now,st.good,st.bad++[k]⟩:=if_neg h
theorem foldl_snoc {t:DTask}{st:KSt}{P:List Nat}{k:Nat}:(P++[k]).foldl (tryD t) st=tryD t (P.foldl (tryD t) st) k:=by rw[List.foldl_append];rfl
end Go.Dw
/- EV: decay with no program in sight: what two searches find; a course that keeps to the tests is not lost by the last day. -/
namespace Go.Dw
open Go Go.Dx Go.Proofs
theorem back_search {r:DRule}(hr:RuleOk r){s a b:Sp}(hs:Strong s)(ha:SpOk a)(hb:SpOk b)(q1:leastS r s a.lo<=b.lo)(q2:b.hi<=mostS r s a.hi){n lo hi:Nat}(hn:(n:Int)=a.hi-a.lo+1)(l0:lo<=n)
  (l1:∀k,k<lo->decide (b.lo<=mostS r s (a.lo+(k:Nat)))=false) (l2:lo<n->decide (b.lo<=mostS r s (a.lo+(lo:Nat)))=true) (u0:hi<=n)
  (u1:∀k,k<hi->decide (b.hi<leastS r s (a.lo+(k:Nat)))=false) (u2:hi<n->decide (b.hi<leastS r s (a.lo+(hi:Nat)))=true):BackOf r s a b ⟨a.lo+(lo:Nat),a.lo+(hi:Nat)-1⟩:=by
 have a1:=ha.lo;have a2:=ha.le;have a3:=ha.hi;have b2:=hb.le
 have hlo:lo<n:=Classical.byContradiction fun hx=>by
  have h1:=of_decide_eq_false (l1 (n-1) (by omega))
  rw[show a.lo+((n-1:Nat):Int)=a.hi by omega] at h1
  omega
 have hhi:0<hi:=Classical.byContradiction fun hx=>by
  have e:hi=0:=by omega
  subst e
  have h1:=of_decide_eq_true (u2 (by omega))
  rw[show a.lo+((0:Nat):Int)=a.lo by omega] at h1
  omega
 refine⟨by show a.lo<=a.lo+(lo:Nat);omega,of_decide_eq_true (l2 hlo),fun m h1 h2=>?_,by show a.lo+(hi:Nat)-1<=a.hi;omega,?_,fun m h1 h2=>?_⟩
 ·have h2:m<a.lo+(lo:Nat):=h2
  have h3:=of_decide_eq_false (l1 (m-a.lo).toNat (by omega))
  rw[show a.lo+((m-a.lo).toNat:Int)=m by omega] at h3
  omega
 ·have h3:=of_decide_eq_false (u1 (hi-1) (by omega))
  rw[show a.lo+((hi-1:Nat):Int)=a.lo+(hi:Nat)-1 by omega] at h3
  show leastS r s (a.lo+(hi:Nat)-1)<=b.hi
  omega
 ·have h1:a.lo+(hi:Nat)-1<m:=h1
  have h3:=of_decide_eq_true (u2 (by omega))
  have h4:=least_mono hr hs (n:=a.lo+(hi:Nat)) (m:=m) (by omega) (by omega) (by omega)
  omega
theorem due_rng {t:DTask}{lo last margin d:Int}(hd:dueS t.first t.days.length lo last margin=(d,0)):d=lastS lo last margin/\t.first<=d/\d<=last/\d<=t.first+t.days.length/\0<=margin:=by
 have hm:¬((last<t.first\/t.first+t.days.length<last)\/margin<0):=fun hx=>by
  unfold dueS at hd;rw[if_pos hx] at hd;cases hd
 have hm2:¬lastS lo last margin<t.first:=fun hx=>by
  unfold dueS at hd;rw[if_neg hm,if_pos hx] at hd;cases hd
 have e:d=lastS lo last margin:=by
  unfold dueS at hd;rw[if_neg hm,if_neg hm2] at hd;exact (Prod.mk.inj hd).1.symm
 have hle:d<=last:=by
  rw[e];unfold lastS;split <;> omega
 exact⟨e,by omega,hle,by omega,by omega⟩
theorem due_level {t:DTask}(h:DOk t){f:Nat->Sp}{last margin d:Int}(hd:dueS t.first t.days.length (lostLo t.rule.lost t.first (knownL t f)) last margin=(d,0)){i:Nat}(hi:t.first+(i:Int)<=d):i<=t.days.length/\(f i).hi<t.rule.lost:=by
 obtain⟨e,_,_,_,_⟩:=due_rng hd
 have hin:i<=t.days.length:=by omega
 refine⟨hin,?_⟩
 have hfl:i<(knownL t f).length:=by rw[knownL_len];omega
 have hfe:(knownL t f)[i]=f i:=by simp only[knownL,List.getElem_map,List.getElem_range]
 rcases lostLo_at (lost:=t.rule.lost) (l:=knownL t f) (first:=t.first) with ⟨h1,_⟩|⟨j,hj,h1,_,h3⟩
 ·have:=h1 i hfl
  rw[hfe] at this
  exact this
 ·have hij:i<j:=by
   have h0:=h.first0
   rw[h1] at e
   unfold lastS at e
   rw[if_pos (by omega)] at e
   omega
  have:=h3 i hij
  rw[hfe] at this
  exact this
end Go.Dw
