/- GS: contracts: the library's sorting of loans. -/
import Derived.Test.YtfgeelpahicelaaGreatDoorRG8
import Derived.Test.YtfgeelpahicelaaGreatDoorRG7
import Derived.Test.YtfgeelpahicelaaGreatDoorRG2
import Derived.Test.YtfgeelpahicelaaGreatDoorRG5
set_option linter.unusedVariables false
set_option linter.unusedSimpArgs false
namespace Go.Dw
open Go Go.Dx Go.Proofs Go.Sort Go.RowKit Go.Lib
set_option maxRecDepth 100000
section
variable {α:Type} [Inhabited α]{enc:α->Value}{w:World}{blk n:Nat}{os:Array Obj}{c:Array Value}{el:TypeId}{d:Array α}
end
def lnRow (x:ScL):List Value:=[i64 x.print,i64 x.venue,i64 x.days.lo,i64 x.days.hi]
def LoanE:Type:={ x:ScL // 0<=x.days.lo/\x.days.lo<=80000 }
instance:Inhabited LoanE:=⟨⟨⟨0,0,⟨0,0⟩⟩,by decide⟩⟩
def encN (x:LoanE):List Value:=lnRow x.1
def cfN (x y:LoanE):Int:=x.1.days.lo-y.1.days.lo
end Go.Dw
/- G6: contracts: whether a loan can be granted, package screen. -/
namespace Go.Dw
open Go Go.Dx Go.Proofs
set_option maxRecDepth 100000
def HsAt (h:Heap)(b:Nat)(t:ScT)(gr:List ScL):Prop:=∃row ag cg vw,ScTAt h row t/\h.get b=some (.cells (row++[.slice ag gr.length cg,vw]) 147 false)/\RowsAt 4 ScLR h ag gr
end Go.Dw
/- G7: contracts: screen.open, screen.Loans. -/
namespace Go.Dw
open Go Go.Dx Go.Proofs
set_option maxRecDepth 100000
def lpre (t:ScT)(k:Nat):List ScL×List Int:=(t.loans.take k).foldl (fun s x=>if grantS t s.1 x=true then (s.1++[x],s.2++[0]) else (s.1,s.2++[210])) ([],[])
def HouseAt (h:Heap)(b:Nat)(t:ScT):Prop:=∃row ag cg aw cw,ScTAt h row t/\h.get b=some (.cells (row++[.slice ag (loansS t).1.length cg,.slice aw (loansS t).2.length cw]) 147 false)/\RowsAt 4 ScLR h ag (loansS t).1/\IntsAt h aw (loansS t).2
theorem HouseAt.ext {h h':Heap}{b:Nat}{t:ScT}(a:HouseAt h b t)(he:Ext h h'):HouseAt h' b t:=by
 obtain⟨row,ag,cg,aw,cw,h1,h2,h3,h4⟩:=a
 exact⟨row,ag,cg,aw,cw,h1.ext he,he.get h2,RowsAt.ext (R:=ScLR) (fun x _=>x) h3 he,h4.ext he⟩
def OpenR (t:ScT)(h:Heap)(v:Value)(h':Heap):Prop:=Ext h h'/\((¬errSc t=0/\v=.tuple ⟨[.pointer none,i64 (errSc t)]⟩)\/(errSc t=0/\∃b,v=.tuple ⟨[.pointer (some ⟨b,0,none⟩),i64 0]⟩/\HouseAt h' b t))
end Go.Dw
/- G8: contracts: loans, package telecineref11. -/
namespace Go.Dw
open Go Go.Dx Go.Proofs
set_option maxRecDepth 100000
end Go.Dw
