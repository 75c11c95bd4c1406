/- J1: contracts: the reference's lists of strings in order: put, has. -/
import Derived.Test.YthlmgoefjmlndaaGreatDoorXG2
import Derived.Test.YthlmgoefjmlndaaGreatDoorXG20
import Derived.Test.YthlmgoefjmlndaaGreatDoorXG13
import Derived.Test.YthlmgoefjmlndaaGreatDoorXG18
import Derived.Test.YthlmgoefjmlndaaGreatDoorXG17
set_option linter.unusedVariables false
set_option linter.unusedSimpArgs false
namespace Go.Dw
open Go Go.Dx Go.Proofs
set_option maxRecDepth 100000
end Go.Dw
namespace Go.Dw
open Go Go.Dx Go.Proofs
set_option maxRecDepth 100000
def ZSn (p:Str×Str)(k:Str):List Str:=(if p.1=k then [p.2] else [])++if p.2=k then [p.1] else []
def ZS8 (x:WkR)(k:Str):List Str:=if x.kind=1 then ZSn (tieI x) k else if x.kind=2 then ZSn (tieS x) k else []
def adjN (s:List WkR)(k:Str):List Str:=s.flatMap fun x=>ZS8 x k
def namA (x:WkR):List Str:=if x.kind=2\/x.kind=3\/x.kind=4 then [x.a] else []
def namB (x:WkR):List Str:=if x.kind=2\/x.kind=3\/x.kind=1 then [x.b] else []
def namN (s:List WkR):List Str:=s.flatMap fun x=>namA x++namB x
def pI (h0:Heap)(q:Value×List Str):It:=slI h0 q.1 9 1 (q.2.map str) q.2.length
def plI (h0:Heap)(v:Value)(P:List (Value×List Str)):It:=slI h0 v 38 1 (P.map Prod.fst) P.length
end Go.Dw
namespace Go.Dw
open Go Go.Dx Go.Proofs
set_option maxRecDepth 100000
end Go.Dw
