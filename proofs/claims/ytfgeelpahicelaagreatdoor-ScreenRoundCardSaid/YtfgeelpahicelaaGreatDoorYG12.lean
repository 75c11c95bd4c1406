/- G3: contracts: the table of ways, screen.Check. -/
import Derived.Test.YtfgeelpahicelaaGreatDoorYG2
import Derived.Test.YtfgeelpahicelaaGreatDoorYG11
import Derived.Test.YtfgeelpahicelaaGreatDoorYG10
import Derived.Test.YtfgeelpahicelaaGreatDoorYG5
import Derived.Test.YtfgeelpahicelaaGreatDoorYG7
set_option linter.unusedVariables false
set_option linter.unusedSimpArgs false
namespace Go.Dw
open Go Go.Dx Go.Proofs
set_option maxRecDepth 100000
def tup3 (x:Int×Int×Int):Value:=.tuple ⟨[i64 x.1,i64 x.2.1,i64 x.2.2]⟩
def HsAt (h:Heap)(b:Nat)(t:ScT)(gr:List ScL):Prop:=∃row ag cg vw,ZKw h row t/\h.get b=some (.cells (row++[.slice ag gr.length cg,vw]) 147 false)/\ZAU 4 ScLR h ag gr
def lpre (t:ScT)(k:Nat):List ScL×List Int:=(t.loans.take k).foldl (fun s x=>if ZMp t s.1 x=true then (s.1++[x],s.2++[0]) else (s.1,s.2++[210])) ([],[])
def ZGC (h:Heap)(b:Nat)(t:ScT):Prop:=∃row ag cg aw cw,ZKw h row t/\h.get b=some (.cells (row++[.slice ag (ZHA t).1.length cg,.slice aw (ZHA t).2.length cw]) 147 false)/\ZAU 4 ScLR h ag (ZHA t).1/\ZGt h aw (ZHA t).2
theorem ZGC.ext {h h':Heap}{b:Nat}{t:ScT}(a:ZGC h b t)(he:Ext h h'):ZGC h' b t:=by
 obtain⟨row,ag,cg,aw,cw,h1,h2,h3,h4⟩:=a;exact⟨row,ag,cg,aw,cw,h1.ext he,he.get h2,ZAU.ext (R:=ScLR) (fun x _=>x) h3 he,h4.ext he⟩
def OpenR (t:ScT)(h:Heap)(v:Value)(h':Heap):Prop:=Ext h h'/\((¬ZJ8 t=0/\v=.tuple ⟨[.pointer none,i64 (ZJ8 t)]⟩)\/(ZJ8 t=0/\∃b,v=.tuple ⟨[.pointer (some ⟨b,0,none⟩),i64 0]⟩/\ZGC h' b t))
end Go.Dw
namespace Go.Dw
open Go Go.Dx Go.Proofs
set_option maxRecDepth 100000
end Go.Dw
