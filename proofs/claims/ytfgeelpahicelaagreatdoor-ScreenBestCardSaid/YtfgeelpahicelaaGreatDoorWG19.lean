/- T2: contracts: subtitles: what is wrong, what cannot be read. -/
import Derived.Test.YtfgeelpahicelaaGreatDoorWG2
import Derived.Test.YtfgeelpahicelaaGreatDoorWG17
import Derived.Test.YtfgeelpahicelaaGreatDoorWG15
import Derived.Test.YtfgeelpahicelaaGreatDoorWG18
set_option linter.unusedVariables false
set_option linter.unusedSimpArgs false
namespace Go.Dw
open Go Go.Dx Go.Proofs
set_option maxRecDepth 100000
def befT (l:List Ttl):Nat->Int
 | 0=>-1
 | k+1=>match l[k]? with|some x=>x.b|none=>-1
def unreadK (l:List Ttl)(speed rate:Int)(k:Nat):List Nat:=(List.range k).filter fun i=>match l[i]? with|some x=>unreadB speed rate x|none=>false
abbrev natV (n:Nat):Value:=i64 (n:Int)
def unErr (l:List Ttl)(speed rate:Int):Int:=if titlesErr l≠0 then titlesErr l else if (speed<1\/60<speed)\/(rate<1\/60<rate) then 7 else 0
def UnR (l:List Ttl)(speed rate:Int)(h:Heap)(v:Value)(h':Heap):Prop:=Ext h h'/\((¬unErr l speed rate=0/\v=.tuple ⟨[.slice none 0 0,i64 (unErr l speed rate)]⟩)\/(unErr l speed rate=0/\∃va,v=.tuple ⟨[va,i64 0]⟩/\FreshSl h h' va 3 1 ((unreadS l speed rate).map natV) (unreadS l speed rate).length))
end Go.Dw
