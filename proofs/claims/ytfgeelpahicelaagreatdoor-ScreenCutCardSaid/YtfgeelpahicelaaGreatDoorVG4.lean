/- C1: contracts of small functions of chapter 04. -/
import Derived.Test.YtfgeelpahicelaaGreatDoorVG2
import Derived.Test.YtfgeelpahicelaaGreatDoorVTy
set_option linter.unusedVariables false
set_option linter.unusedSimpArgs false
namespace Go.Dw
open Go Go.Dx Go.Proofs
set_option maxRecDepth 100000
theorem out_sv (a lo hi:Int)(h:Heap):Sv Tryz.prog 55 [i64 a,i64 lo,i64 hi] h (RetP fun v h'=>v=.bool (decide (a<lo\/hi<a))/\h'=h):=by
 refine Sv_enter Tryz.func55 rfl (by rw[Tryz.ntmps55];rfl) ?_;show Wc Tryz.prog ⟨55,15,none⟩ _ _ _ _ _
 refine zz ?_
 refine Wo_dec rfl rfl rfl rfl (A_lss rfl rfl) (fun h1=>?_) (fun h1=>?_)
 ·refine zz ?_
  exact Wc_ret (Lv_ret rfl ⟨by rw[decide_eq_true (.inl h1)];rfl,rfl⟩)
 ·refine zz ?_
  refine Wo_dec rfl rfl rfl rfl (A_gtr rfl rfl) (fun h2=>?_) (fun h2=>?_)
  ·refine zz ?_
   exact Wc_ret (Lv_ret rfl ⟨by rw[decide_eq_true (.inr h2)];rfl,rfl⟩)
  ·refine zz ?_
   exact Wc_ret (Lv_ret rfl ⟨by rw[decide_eq_false (not_or.2 ⟨h1,h2⟩)];rfl,rfl⟩)
def firstI {α:Type}(p:α->Bool)(l:List α):Int:=match l.findIdx? p with
 | some i=>i
 | none=>-1
end Go.Dw
/- C2: contracts: names of chapter 01: strings.Split at one byte, strings.Trim at letters and digits. -/
namespace Go.Dw
open Go Go.Dx Go.Proofs
set_option maxRecDepth 100000
def alN (n:Nat):Bool:=(decide (97<=n) && decide (n<=122)) || (decide (48<=n) && decide (n<=57))
def al (c:UInt8):Bool:=alN c.toNat
def tabC:List Value:=(List.range 256).map fun i=>.bool (alN i)
def alnum:List UInt8:=[97,98,99,100,101,102,103,104,105,106,107,108,109,110,111,112,113,114,115,116,117,118,119,120,121,122,48,49,50,51,52,53,54,55,56,57]
theorem tab0:TabOK Tryz.prog []:=fun _ h=>nomatch h
def trimR (l:List UInt8):List UInt8:=(l.reverse.dropWhile al).reverse
def trimL (l:List UInt8):List UInt8:=l.dropWhile al
def dash:UInt8:=45
def splitD:List UInt8->List (List UInt8)
 | []=>[[]]
 | x::l=>if x=dash then []::splitD l else match splitD l with
  | []=>[[x]]
  | p::ps=>(x::p)::ps
end Go.Dw
/- C3: contracts: strings.Split at one byte; names (film.Name, telecineref01.Name). -/
namespace Go.Dw
open Go Go.Dx Go.Proofs
set_option maxRecDepth 100000
end Go.Dw
/- C4: contracts: names (film.Name, telecineref01.Name). -/
namespace Go.Dw
open Go Go.Dx Go.Proofs
set_option maxRecDepth 100000
def letB (c:UInt8):Bool:=decide (97<=c.toNat/\c.toNat<=122)
def fstL:List UInt8->Bool
 | []=>false
 | c::_=>letB c
def digB (c:UInt8):Bool:=decide (48<=c.toNat/\c.toNat<=57)
def nameF (l:List UInt8):Bool:=decide (1<=l.length/\l.length<=24) && fstL l && (splitD l).all fun p=>!(decide (p=[]) || !p.all al)
def okAt (l:List UInt8)(i:Nat):Bool:=match l[i]? with
 | none=>true
 | some c=>letB c || digB c || (decide (c=dash) && !(decide (l[i-1]?=some dash)) && !decide (i+1=l.length))
def nameR (l:List UInt8):Bool:=decide (1<=l.length/\l.length<=24) && fstL l && (List.range l.length).all (okAt l)
end Go.Dw
