/- H1: contracts: screen.up, a show in memory, enter. -/
import Derived.Laws.StructEq
import Derived.Test.YtfgeelpahicelaaGreatDoorYG2
import Derived.Test.YtfgeelpahicelaaGreatDoorYG12
set_option linter.unusedVariables false
set_option linter.unusedSimpArgs false
namespace Go.Dw
open Go Go.Dx Go.Proofs
set_option maxRecDepth 100000
def ZOq (t:ScT)(s:ScS)(bH:Nat):List Value:=[i64 s.venue,i64 s.print,i64 s.pack,i64 s.minute,i64 s.speed,i64 s.worth,.pointer (some ⟨bH,0,none⟩),str (ZND t s),str (ZM2 t s),
 str (ZBB t s).name,i64 (ZBB t s).land,i64 (ZBB t s).proj,i64 (ZBB t s).speeds.lo,i64 (ZBB t s).speeds.hi,i64 (ZBB t s).change,i64 (ZBB t s).spool,i64 (ZBB t s).turn,.bool (ZBB t s).digital,i64 (endS t s),i64 (ZJ0 t s).lo,i64 (ZJ0 t s).hi]
def ZFA (h:Heap)(b bH:Nat)(t:ScT)(s:ScS):Prop:=h.get b=some (.cells (ZOq t s bH) 156 false)
theorem ZFA.ext {h h':Heap}{b bH:Nat}{t:ScT}{s:ScS}(a:ZFA h b bH t s)(he:Ext h h'):ZFA h' b bH t s:=he.get a
def ZO1 (t:ScT)(s:ScS)(bH:Nat)(h:Heap)(v:Value)(h':Heap):Prop:=Ext h h'/\((¬ZCK t s=0/\v=.tuple ⟨[.pointer none,i64 (ZCK t s)]⟩)\/(ZCK t s=0/\∃b,v=.tuple ⟨[.pointer (some ⟨b,0,none⟩),i64 0]⟩/\ZFA h' b bH t s/\h.nx<=b))
def rOk (W V:List UInt8)(land:Int)(D:Sp)(r:ScR):Bool:=decide (r.work=W/\(r.version=[]\/r.version=V)/\r.land=land/\inSp D r.days)
theorem ZFA.row {h:Heap}{b bH:Nat}{t:ScT}{s:ScS}(a:ZFA h b bH t s):h.get b=some (.cells [i64 s.venue,i64 s.print,i64 s.pack,i64 s.minute,i64 s.speed,i64 s.worth,.pointer (some ⟨bH,0,none⟩),str (ZND t s),str (ZM2 t s),
 str (ZBB t s).name,i64 (ZBB t s).land,i64 (ZBB t s).proj,i64 (ZBB t s).speeds.lo,i64 (ZBB t s).speeds.hi,i64 (ZBB t s).change,i64 (ZBB t s).spool,i64 (ZBB t s).turn,.bool (ZBB t s).digital,i64 (endS t s),i64 (ZJ0 t s).lo,i64 (ZJ0 t s).hi] 156 false):=a
def lOk (s:ScS)(D:Sp)(l:ScL):Bool:=decide (l.print=s.print/\l.venue=s.venue/\inSp D l.days)
def kOk (s:ScS)(D:Sp)(k:ScK):Bool:=decide (k.pack=s.pack/\k.venue=s.venue/\inSp D k.window)
def maxL:List Int->Int
 | []=>0
 | x::l=>l.foldl max x
abbrev ptrB (b:Nat):Value:=.pointer (some ⟨b,0,none⟩)
def ptrZ (z:Nat×ScS):Value:=.pointer (some ⟨z.1,0,none⟩)
def ZIm (h:Heap)(bH:Nat)(t:ScT)(zs:List (Nat×ScS)):Prop:=∀z∈zs,ZFA h z.1 bH t z.2
theorem ZIm.ext {h h':Heap}{bH:Nat}{t:ScT}{zs:List (Nat×ScS)}(a:ZIm h bH t zs)(he:Ext h h'):ZIm h' bH t zs:=fun z hz=>he.get (a z hz)
def shI (bH:Nat)(t:ScT)(zs:List (Nat×ScS)):It where
 S:=fun c=>c∈zs.map Prod.fst
 p:=fun h=>ZIm h bH t zs
 loc:=fun hk hp z hz=>hk _ _ (List.mem_map_of_mem hz) (hp z hz)
 ex:=fun hp hc=>by obtain⟨z,hz,rfl⟩:=List.mem_map.1 hc;exact⟨_,hp z hz⟩
def shVs (s:ScS):List Value:=[i64 s.venue,i64 s.print,i64 s.pack,i64 s.minute,i64 s.speed,i64 s.worth]
def ZKc (t:ScT)(l:List ScS):Int:=if 40<l.length then 3 else match l.find? fun s=>decide (ZCK t s≠0) with|some s=>ZCK t s|none=>0
def AllR (t:ScT)(l:List ScS)(bH:Nat)(h:Heap)(v:Value)(h':Heap):Prop:=Ext h h'/\((¬ZKc t l=0/\v=.tuple ⟨[.slice none 0 0,i64 (ZKc t l)]⟩)\/(ZKc t l=0/\∃va zs,v=.tuple ⟨[va,i64 0]⟩/\zs.map Prod.snd=l/\Own h h' [slI h va 152 1 (zs.map ptrZ) zs.length,shI bH t zs]/\(zs.map Prod.fst).Nodup))
def PlayR (t:ScT)(l:List ScS)(h:Heap)(v:Value)(h':Heap):Prop:=Ext h h'/\((¬ZII t l=0/\v=.tuple ⟨[.slice none 0 0,.slice none 0 0,i64 (ZII t l)]⟩)\/(ZII t l=0/\∃va vb,v=.tuple ⟨[va,vb,i64 0]⟩/\ZAG h h' va 42 6 ((ZLw t l).1.flatMap shVs) (ZLw t l).1.length/\ZAG h h' vb 32 1 ((ZLw t l).2.map i64) (ZLw t l).2.length))
end Go.Dw
namespace Go.Dw
open Go Go.Dx Go.Proofs
set_option maxRecDepth 100000
end Go.Dw
namespace Go.Dw
open Go Go.Dx Go.Proofs
set_option maxRecDepth 100000
theorem ScS.ext' {a b:ScS}(h1:a.venue=b.venue)(h2:a.print=b.print)(h3:a.pack=b.pack)(h4:a.minute=b.minute)(h5:a.speed=b.speed)(h6:a.worth=b.worth):a=b:=by
 cases a;cases b;simp_all
instance:DecidableEq ScS:=fun a b=>decidable_of_iff (a.venue=b.venue/\a.print=b.print/\a.pack=b.pack/\a.minute=b.minute/\a.speed=b.speed/\a.worth=b.worth) ⟨fun ⟨h1,h2,h3,h4,h5,h6⟩=>ScS.ext' h1 h2 h3 h4 h5 h6,fun h=>by subst h;simp⟩
theorem ZI5 {cs:Array Value}{o:Nat}{v:Value}{W:World}(h:cs[o]?=some v):(part 3 cs o).run Tryz.prog W=.ok v W:=by
 unfold part;simp only[Sem.run_bind,Tryz.isAgg3,Result.andThen_ok,Bool.false_eq_true,if_false,h,Sem.run_pure]
theorem ZKQ {d : Nat} {xs ys : Array Value} {f : Field} {fs : List Field} {a b : Int} {W : World} (hn : f.name ≠ "_") (ht : f.type = 3) (ha : xs[f.offset]? = some (i64 a)) (hb : ys[f.offset]? = some (i64 b)) :
  (Op.eqFields (d+1) xs ys (f::fs)).run Tryz.prog W=if a=b then (Op.eqFields (d+1) xs ys fs).run Tryz.prog W else .ok false W:=by
 rw[Op.eqFields,if_pos hn,ht];simp only[Sem.run_bind,ZI5 ha,ZI5 hb,Result.andThen_ok,run_equalIn_int W d 3 .i64 .i64 a b Tryz.underlying3]
 by_cases h:a=b
 ·subst h
  simp
 ·have:(a == b)=false:=by simpa using h
  simp[this,h]
end Go.Dw
