/- P1: contracts: the places of a reel (rescue.places), a range over a function. -/
import Derived.Test.YtcjmpdpgfmjcgaaGreatDoorLG2
import Derived.Test.YtcjmpdpgfmjcgaaGreatDoorLG8
namespace Go.Dw
open Go Go.Dx Go.Proofs
set_option maxRecDepth 100000
abbrev Pl := Int × Int × Int
abbrev plV (p : Pl) : Value := .agg ⟨[i64 p.1, i64 p.2.1, i64 p.2.2]⟩
def machP (t : Task) (d m : Int) : List Pl := (List.range (capT t m d).toNat).map fun (n : Nat) => (m, d, (n : Int))
def dayP (t : Task) (r : Int) (d : Int) : List Pl := (reelAt t r).machines.flatMap (machP t d)
def placesL (t : Task) (r : Int) : List Pl := (List.range ((reelAt t r).due - (reelAt t r).ready + 1).toNat).flatMap fun (k : Nat) => dayP t r ((reelAt t r).ready + k)
def benchC (t : Task) (am ar : Option Addr) (cm cr : Nat) (mp : Value) : List Value := [i64 t.first, i64 t.days, .slice am t.machines.length cm, .slice ar t.reels.length cr, mp]
structure IterJ (h0 : Heap) (t : Task) (am ar : Option Addr) (cm cr : Nat) (mp : Value) (bb c1 c2 : Nat) (r : Int) (h' : Heap) : Prop where
 ext : Ext h0 h'
 g1 : h'.get c1 = some (.cells [.pointer (some ⟨bb, 0, none⟩)] 113 false)
 g2 : h'.get c2 = some (.cells [i64 r] 3 false)
 gb : h'.get bb = some (.cells (benchC t am ar cm cr mp) 116 false)
end Go.Dw
