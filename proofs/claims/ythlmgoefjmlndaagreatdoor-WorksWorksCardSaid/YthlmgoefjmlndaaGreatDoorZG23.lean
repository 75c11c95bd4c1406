/- K1: contracts: clashes, as the reference finds them. -/
import Derived.Test.YthlmgoefjmlndaaGreatDoorZG2
import Derived.Test.YthlmgoefjmlndaaGreatDoorZG21
set_option linter.unusedVariables false
set_option linter.unusedSimpArgs false
namespace Go.Dw
open Go Go.Dx Go.Proofs
set_option maxRecDepth 100000
abbrev Cls:=Key×List Str
def clF (S:List WkR)(x:WkR):List Cls:=if ZEZ (nxtW S) x.a x.b (nodW S).length=[] then [] else [(x.key,ZEZ (nxtW S) x.a x.b (nodW S).length)]
def clsL (S L:List WkR):List Cls:=L.flatMap fun x=>if x.kind=3 then clF S x else []
def ClsR (h:Heap)(row:List Value)(c:Cls):Prop:=∃a k,row=[str c.1.1,i64 c.1.2,.slice a c.2.length k]/\ZAz str h a c.2
theorem ClsR.ext {h h':Heap}{row:List Value}{c:Cls}(hr:ClsR h row c)(hE:Ext h h'):ClsR h' row c:=by
 obtain⟨a,k,e,hl⟩:=hr;exact⟨a,k,e,hl.ext hE⟩
abbrev rowC (c:Value×Cls):List Value:=[str c.2.1.1,i64 c.2.1.2,c.1]
def cI (h0:Heap)(c:Value×Cls):It:=slI h0 c.1 9 1 (c.2.2.map str) c.2.2.length
def clI (h0:Heap)(v:Value)(C:List (Value×Cls)):It:=slI h0 v 62 3 (C.flatMap rowC) C.length
end Go.Dw
namespace Go.Dw
open Go Go.Dx Go.Proofs
set_option maxRecDepth 100000
section
variable {P:Program}{m:Mem}{h:Heap}{d:Option Tmp}{ty:TypeId}{pos:String}{af:Array Edge}{gu:Option (Nat×Bool)}{t tz el:TypeId}{x y:Operand}
end
def clX (h0:Heap)(b2:Nat)(T:List It)(G:Value×List (Value×Cls)):List It:=clI h0 G.1 G.2::ceI b2 [G.1] 55 false::(G.2.map (cI h0)++T)
end Go.Dw
