/- G3: contracts: the table of ways, screen.Check. -/
import Derived.Test.YtfgeelpahicelaaGreatDoorVG2
import Derived.Test.YtfgeelpahicelaaGreatDoorVG11
import Derived.Test.YtfgeelpahicelaaGreatDoorVG10
import Derived.Test.YtfgeelpahicelaaGreatDoorVG5
import Derived.Test.YtfgeelpahicelaaGreatDoorVG7
set_option linter.unusedVariables false
set_option linter.unusedSimpArgs false
namespace Go.Dw
open Go Go.Dx Go.Proofs
set_option maxRecDepth 100000
def tup3 (x:Int×Int×Int):Value:=.tuple ⟨[i64 x.1,i64 x.2.1,i64 x.2.2]⟩
end Go.Dw
/- G6: contracts: whether a loan can be granted, package screen. -/
namespace Go.Dw
open Go Go.Dx Go.Proofs
set_option maxRecDepth 100000
def HsAt (h:Heap)(b:Nat)(t:ScT)(gr:List ScL):Prop:=∃row ag cg vw,ScTAt h row t/\h.get b=some (.cells (row++[.slice ag gr.length cg,vw]) 147 false)/\RowsAt 4 ScLR h ag gr
end Go.Dw
/- G7: contracts: screen.open, screen.Loans. -/
namespace Go.Dw
open Go Go.Dx Go.Proofs
set_option maxRecDepth 100000
def lpre (t:ScT)(k:Nat):List ScL×List Int:=(t.loans.take k).foldl (fun s x=>if grantS t s.1 x=true then (s.1++[x],s.2++[0]) else (s.1,s.2++[210])) ([],[])
def HouseAt (h:Heap)(b:Nat)(t:ScT):Prop:=∃row ag cg aw cw,ScTAt h row t/\h.get b=some (.cells (row++[.slice ag (loansS t).1.length cg,.slice aw (loansS t).2.length cw]) 147 false)/\RowsAt 4 ScLR h ag (loansS t).1/\IntsAt h aw (loansS t).2
theorem HouseAt.ext {h h':Heap}{b:Nat}{t:ScT}(a:HouseAt h b t)(he:Ext h h'):HouseAt h' b t:=by
 obtain⟨row,ag,cg,aw,cw,h1,h2,h3,h4⟩:=a
 exact⟨row,ag,cg,aw,cw,h1.ext he,he.get h2,RowsAt.ext (R:=ScLR) (fun x _=>x) h3 he,h4.ext he⟩
def OpenR (t:ScT)(h:Heap)(v:Value)(h':Heap):Prop:=Ext h h'/\((¬errSc t=0/\v=.tuple ⟨[.pointer none,i64 (errSc t)]⟩)\/(errSc t=0/\∃b,v=.tuple ⟨[.pointer (some ⟨b,0,none⟩),i64 0]⟩/\HouseAt h' b t))
end Go.Dw
/- G5: the contract of telecineref11.Check. -/
namespace Go.Dw
open Go Go.Dx Go.Proofs
set_option maxRecDepth 100000
end Go.Dw
/- G8: contracts: loans, package telecineref11. -/
namespace Go.Dw
open Go Go.Dx Go.Proofs
set_option maxRecDepth 100000
end Go.Dw
