/- N1: the two ways to tell a name agree. -/
import Derived.Test.YtdfadhkbhbbabaaGreatDoorAG3
set_option linter.unusedVariables false
set_option linter.unusedSimpArgs false
namespace Go.Dw
theorem ZPm {c:UInt8}:(letB c || digB c)=al c:=by
 unfold letB digB al alN;rw[Bool.eq_iff_iff];simp
theorem ZP5:al dash=false:=by decide
def ZF4 (l:List UInt8):Bool:=(ZAl l).all fun p=>!(decide (p=[]) || !p.all al)
def go (b:Bool):List UInt8->Bool
 | []=>!b
 | c::l=>if c=dash then !b && go true l else al c && go false l
theorem ZOy:∀l:List UInt8,ZF4 l=go true l/\∀p ps,ZAl l=p::ps->(p.all al && ps.all fun p=>!(decide (p=[]) || !p.all al))=go false l:=by
 intro l
 induction l with
 | nil =>
  refine⟨by simp[ZF4,ZAl,go],fun p ps h=>?_⟩;simp[ZAl] at h;obtain⟨rfl,rfl⟩:=h;simp[go]
 | cons c l ih =>
  obtain⟨ih1,ih2⟩:=ih
  by_cases hc:c=dash
  ·have hs:ZAl (c::l)=[]::ZAl l:=by simp[ZAl,hc]
   refine⟨by unfold ZF4;rw[hs];simp[go,hc],fun p ps h=>?_⟩;rw[hs] at h;simp only[List.cons.injEq] at h;obtain⟨rfl,rfl⟩:=h;have:((ZAl l).all fun p=>!(decide (p=[]) || !p.all al))=ZF4 l:=rfl;rw[this,ih1];simp[go,hc]
  ·obtain⟨q,qs,hq⟩:∃q qs,ZAl l=q::qs:=by
    cases h:ZAl l with
    | nil=>exact absurd h (ZHo l)
    | cons q qs=>exact⟨q,qs,rfl⟩
   have hs:ZAl (c::l)=(c::q)::qs:=by simp[ZAl,hc,hq]
   have h2:=ih2 q qs hq;refine⟨?_,fun p ps h=>?_⟩
   ·simp only[ZF4,hs,List.all_cons,go,hc,if_false]
    rw[<-h2];simp[Bool.and_assoc]
   ·rw[hs] at h
    simp only[List.cons.injEq] at h;obtain⟨rfl,rfl⟩:=h;simp only[go,hc,if_false,List.all_cons];rw[<-h2,Bool.and_assoc]
theorem ZMZ (pre:List UInt8)(c:UInt8)(l:List UInt8)(hp:pre≠[]) :
  okAt (pre++c::l) pre.length=(al c || (decide (c=dash) && !decide (pre.getLast?=some dash) && !decide (l=[]))):=by
 have h1:(pre++c::l)[pre.length]?=some c:=by simp
 have h2:(pre++c::l)[pre.length-1]?=pre.getLast?:=by
  have:pre.length-1<pre.length:=by have:=List.length_pos_iff.2 hp;omega
  rw[List.getElem?_append_left this,List.getLast?_eq_getElem?]
 have h3:decide (pre.length+1=(pre++c::l).length)=decide (l=[]):=by
  rw[decide_eq_decide];simp
 unfold okAt;rw[h1];simp only[h2,h3,ZPm]
theorem ZVa:∀(l pre:List UInt8),pre≠[]->(l=[]->pre.getLast?≠some dash)->((∀i,i<l.length->okAt (pre++l) (pre.length+i)=true) ↔ go (decide (pre.getLast?=some dash)) l=true):=by
 intro l
 induction l with
 | nil=>intro pre _ h;simp[go,h rfl]
 | cons c l ih =>
  intro pre hp _;have hstep:(∀i,i<(c::l).length->okAt (pre++c::l) (pre.length+i)=true) ↔ (okAt (pre++c::l) pre.length=true/\∀i,i<l.length->okAt ((pre++[c])++l) ((pre++[c]).length+i)=true):=by
   constructor
   ·intro h
    refine⟨h 0 (by simp),fun i hi=>?_⟩;have:=h (i+1) (by simpa using hi);simp only[List.append_assoc,List.singleton_append,List.length_append,List.length_singleton];rw[show pre.length+1+i=pre.length+(i+1) by omega];exact this
   ·rintro⟨h0,h1⟩ i hi
    cases i with
    | zero=>exact h0
    | succ i =>
     have:=h1 i (by simpa using hi);simp only[List.append_assoc,List.singleton_append,List.length_append,List.length_singleton] at this;rw[show pre.length+1+i=pre.length+(i+1) by omega] at this;exact this
  rw[hstep,ZMZ pre c l hp];have hlast:(pre++[c]).getLast?=some c:=by simp
  by_cases hc:c=dash
  ·subst hc
   cases l with
   | nil=>simp[go,ZP5]
   | cons d l =>
    have:=ih (pre++[dash]) (by simp) (by simp);rw[this,hlast];simp[go,ZP5]
  ·cases l with
   | nil=>simp[go,hc]
   | cons d l =>
    have:=ih (pre++[c]) (by simp) (by simp);rw[this,hlast];simp[go,hc]
theorem ZEK (l:List UInt8):ZA7 l=ZCv l:=by
 unfold ZA7 ZCv
 by_cases h1:1<=l.length/\l.length<=24
 case neg=>simp[h1]
 cases l with
 | nil=>simp
 | cons c r =>
  simp only[fstL];cases hc:letB c
  ·simp
  ·have hal:al c=true:=by rw[<-ZPm,hc];rfl
   have hnd:c≠dash:=fun e=>by rw[e] at hc;exact absurd hc (by decide)
   simp only[decide_eq_true h1,Bool.true_and];have hF:((ZAl (c::r)).all fun p=>!(decide (p=[]) || !p.all al))=go false r:=by
    have:=(ZOy (c::r)).1;unfold ZF4 at this;rw[this];simp[go,hnd,hal]
   rw[hF,Bool.eq_iff_iff,List.all_eq_true];have hlast:([c]:List UInt8).getLast?=some c:=rfl;have key:=ZVa r [c] (by simp) (fun _=>by simp[hnd]);rw[hlast] at key;have hdec:decide (some c=some dash)=false:=by simp[hnd]
   rw[hdec] at key;rw[<-key]
   constructor
   ·intro h i hi
    have hi':=List.mem_range.1 hi
    cases i with
    | zero=>simp[okAt,hc]
    | succ i =>
     have:=h i (by simpa using hi');rw[show i+1=[c].length+i by simp;omega];exact this
   ·intro h i hi
    have:=h ([c].length+i) (List.mem_range.2 (by simp;omega));exact this
end Go.Dw
