/- H1: contracts: screen.up, a show in memory, enter. -/
import Derived.Laws.StructEq
import Derived.Test.YtfgeelpahicelaaGreatDoorVG2
import Derived.Test.YtfgeelpahicelaaGreatDoorVG12
set_option linter.unusedVariables false
set_option linter.unusedSimpArgs false
namespace Go.Dw
open Go Go.Dx Go.Proofs
set_option maxRecDepth 100000
def shRow (t:ScT)(s:ScS)(bH:Nat):List Value:=[i64 s.venue,i64 s.print,i64 s.pack,i64 s.minute,i64 s.speed,i64 s.worth,.pointer (some ⟨bH,0,none⟩),str (workS t s),str (versS t s),
 str (venAt t s).name,i64 (venAt t s).land,i64 (venAt t s).proj,i64 (venAt t s).speeds.lo,i64 (venAt t s).speeds.hi,i64 (venAt t s).change,i64 (venAt t s).spool,i64 (venAt t s).turn,.bool (venAt t s).digital,i64 (endS t s),i64 (daysS t s).lo,i64 (daysS t s).hi]
def ShowAt (h:Heap)(b bH:Nat)(t:ScT)(s:ScS):Prop:=h.get b=some (.cells (shRow t s bH) 156 false)
theorem ShowAt.ext {h h':Heap}{b bH:Nat}{t:ScT}{s:ScS}(a:ShowAt h b bH t s)(he:Ext h h'):ShowAt h' b bH t s:=he.get a
def EnterR (t:ScT)(s:ScS)(bH:Nat)(h:Heap)(v:Value)(h':Heap):Prop:=Ext h h'/\((¬shownErr t s=0/\v=.tuple ⟨[.pointer none,i64 (shownErr t s)]⟩)\/(shownErr t s=0/\∃b,v=.tuple ⟨[.pointer (some ⟨b,0,none⟩),i64 0]⟩/\ShowAt h' b bH t s/\h.nx<=b))
end Go.Dw
/- H3: contracts: why a show may not be, package screen. -/
namespace Go.Dw
open Go Go.Dx Go.Proofs
set_option maxRecDepth 100000
def rOk (W V:List UInt8)(land:Int)(D:Sp)(r:ScR):Bool:=decide (r.work=W/\(r.version=[]\/r.version=V)/\r.land=land/\inSp D r.days)
theorem ShowAt.row {h:Heap}{b bH:Nat}{t:ScT}{s:ScS}(a:ShowAt h b bH t s):h.get b=some (.cells [i64 s.venue,i64 s.print,i64 s.pack,i64 s.minute,i64 s.speed,i64 s.worth,.pointer (some ⟨bH,0,none⟩),str (workS t s),str (versS t s),
 str (venAt t s).name,i64 (venAt t s).land,i64 (venAt t s).proj,i64 (venAt t s).speeds.lo,i64 (venAt t s).speeds.hi,i64 (venAt t s).change,i64 (venAt t s).spool,i64 (venAt t s).turn,.bool (venAt t s).digital,i64 (endS t s),i64 (daysS t s).lo,i64 (daysS t s).hi] 156 false):=a
def lOk (s:ScS)(D:Sp)(l:ScL):Bool:=decide (l.print=s.print/\l.venue=s.venue/\inSp D l.days)
def kOk (s:ScS)(D:Sp)(k:ScK):Bool:=decide (k.pack=s.pack/\k.venue=s.venue/\inSp D k.window)
def maxL:List Int->Int
 | []=>0
 | x::l=>l.foldl max x
end Go.Dw
/- H6: contracts: shows in a list, package screen: over, disturbs, all, Play. -/
namespace Go.Dw
open Go Go.Dx Go.Proofs
set_option maxRecDepth 100000
abbrev ptrB (b:Nat):Value:=.pointer (some ⟨b,0,none⟩)
def ptrZ (z:Nat×ScS):Value:=.pointer (some ⟨z.1,0,none⟩)
def ShowsP (h:Heap)(bH:Nat)(t:ScT)(zs:List (Nat×ScS)):Prop:=∀z∈zs,ShowAt h z.1 bH t z.2
theorem ShowsP.ext {h h':Heap}{bH:Nat}{t:ScT}{zs:List (Nat×ScS)}(a:ShowsP h bH t zs)(he:Ext h h'):ShowsP h' bH t zs:=fun z hz=>he.get (a z hz)
def shI (bH:Nat)(t:ScT)(zs:List (Nat×ScS)):It where
 S:=fun c=>c∈zs.map Prod.fst
 p:=fun h=>ShowsP h bH t zs
 loc:=fun hk hp z hz=>hk _ _ (List.mem_map_of_mem hz) (hp z hz)
 ex:=fun hp hc=>by obtain⟨z,hz,rfl⟩:=List.mem_map.1 hc;exact⟨_,hp z hz⟩
def shVs (s:ScS):List Value:=[i64 s.venue,i64 s.print,i64 s.pack,i64 s.minute,i64 s.speed,i64 s.worth]
def allErr (t:ScT)(l:List ScS):Int:=if 40<l.length then 3 else match l.find? fun s=>decide (shownErr t s≠0) with|some s=>shownErr t s|none=>0
def AllR (t:ScT)(l:List ScS)(bH:Nat)(h:Heap)(v:Value)(h':Heap):Prop:=Ext h h'/\((¬allErr t l=0/\v=.tuple ⟨[.slice none 0 0,i64 (allErr t l)]⟩)\/(allErr t l=0/\∃va zs,v=.tuple ⟨[va,i64 0]⟩/\zs.map Prod.snd=l/\Own h h' [slI h va 152 1 (zs.map ptrZ) zs.length,shI bH t zs]/\(zs.map Prod.fst).Nodup))
def PlayR (t:ScT)(l:List ScS)(h:Heap)(v:Value)(h':Heap):Prop:=Ext h h'/\((¬listedS t l=0/\v=.tuple ⟨[.slice none 0 0,.slice none 0 0,i64 (listedS t l)]⟩)\/(listedS t l=0/\∃va vb,v=.tuple ⟨[va,vb,i64 0]⟩/\FreshSl h h' va 42 6 ((playS t l).1.flatMap shVs) (playS t l).1.length/\FreshSl h h' vb 32 1 ((playS t l).2.map i64) (playS t l).2.length))
end Go.Dw
/- H2: contracts: shown and long, package telecineref11. -/
namespace Go.Dw
open Go Go.Dx Go.Proofs
set_option maxRecDepth 100000
end Go.Dw
/- H4: contracts: why a show may not be, package telecineref11. -/
namespace Go.Dw
open Go Go.Dx Go.Proofs
set_option maxRecDepth 100000
end Go.Dw
/- H7: contracts: shows in a list, package telecineref11: over, Disturb, listed, Play, Shows. -/
namespace Go.Dw
open Go Go.Dx Go.Proofs
set_option maxRecDepth 100000
end Go.Dw
/- H8: contracts: two lists of shows compared; parts of lists that may be empty. -/
namespace Go.Dw
open Go Go.Dx Go.Proofs
set_option maxRecDepth 100000
theorem ScS.ext' {a b:ScS}(h1:a.venue=b.venue)(h2:a.print=b.print)(h3:a.pack=b.pack)(h4:a.minute=b.minute)(h5:a.speed=b.speed)(h6:a.worth=b.worth):a=b:=by
 cases a;cases b;simp_all
instance:DecidableEq ScS:=fun a b=>decidable_of_iff (a.venue=b.venue/\a.print=b.print/\a.pack=b.pack/\a.minute=b.minute/\a.speed=b.speed/\a.worth=b.worth) ⟨fun ⟨h1,h2,h3,h4,h5,h6⟩=>ScS.ext' h1 h2 h3 h4 h5 h6,fun h=>by subst h;simp⟩
end Go.Dw
