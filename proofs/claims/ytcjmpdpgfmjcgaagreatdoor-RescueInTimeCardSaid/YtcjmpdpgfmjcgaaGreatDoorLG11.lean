/- P2: how many places some reels can use, with no program in sight: Count, and a set of places. -/
import Derived.Test.YtcjmpdpgfmjcgaaGreatDoorLG9
import Derived.Test.YtcjmpdpgfmjcgaaGreatDoorLG10
import Derived.Test.YtcjmpdpgfmjcgaaGreatDoorLG2
namespace Go.Dw
open Go Go.Dx Go.Proofs
theorem mem_placesL {t : Task} {r m d n : Int} : (m, d, n) ∈ placesL t r ↔ m ∈ (reelAt t r).machines /\ (reelAt t r).ready <= d /\ d <= (reelAt t r).due /\ 0 <= n /\ n < capT t m d := by
 unfold placesL dayP machP
 simp only [List.mem_flatMap, List.mem_map, List.mem_range, Prod.mk.injEq]
 constructor
 ·rintro ⟨k, hk, m', hm, n', hn, rfl, rfl, rfl⟩
  exact ⟨hm, by omega, by omega, by omega, by omega⟩
 ·rintro ⟨h1, h2, h3, h4, h5⟩
  refine ⟨(d - (reelAt t r).ready).toNat, by omega, m, h1, n.toNat, ?_, rfl, by omega, by omega⟩
  rw [show (reelAt t r).ready + ((d - (reelAt t r).ready).toNat : Int) = d by omega]
  omega
def cellL (t : Task) (l : List Int) (m d : Nat) : List Pl := if (l.any fun k => canB t k m d) = true then (List.range ((t.machines.getD m noMach).places.getD d 0).toNat).map fun (n : Nat) => ((m : Int), t.first + (d : Int), (n : Int)) else []
def rowL (t : Task) (l : List Int) (m D : Nat) : List Pl := (List.range D).flatMap (cellL t l m)
def cellsL (t : Task) (l : List Int) (M : Nat) : List Pl := (List.range M).flatMap fun m => rowL t l m t.days.toNat
def lateBad (t : Task) (l : List Turn) (bef : Int) (x : Lat) : Bool := decide (((x.reel < 0 \/ (t.reels.length : Int) - 1 < x.reel) \/ x.reel ∈ l.map Turn.reel) \/ x.reel <= bef)
def lateGo (t : Task) (l : List Turn) : Nat -> Int -> List Lat -> Int × Int
 | i, _, [] => if (i : Int) + l.length ≠ t.reels.length then (i, 142) else (0, 0)
 | i, bef, x :: xs => if lateBad t l bef x = true then (i, 142) else if holdsB t (l.map Turn.reel) x = false then (i, 143) else lateGo t l (i + 1) x.reel xs
def acceptS (t : Task) (l : List Turn) (late : List Lat) : Int × Int := if (judgeS t l).2 ≠ 0 then (0, (judgeS t l).2) else lateGo t l 0 (-1) late
end Go.Dw
/- P3: the contract of rescue.Accept. -/
namespace Go.Dw
open Go Go.Dx Go.Proofs
set_option maxRecDepth 100000
theorem LatsAt.at {h : Heap} {a : Option Addr} {l : List Lat} (hl : LatsAt h a l) {k : Nat} (hk : k < l.length) : ∃ b o oa ab cb, a = some ⟨b, o, oa⟩ /\ rowAt h b (o + k * 2) 2 = some [i64 l[k].reel, .slice ab l[k].by'.length cb] /\ cellAt h b (o + k * 2 + 0) = some (i64 l[k].reel) /\ SrcAt i64 h ab l[k].by' := by
 obtain ⟨b, o, oa, e, row, h1, ab, cb, rfl, h2⟩ := hl k hk
 exact ⟨b, o, oa, ab, cb, e, h1, cell_of_row h1 rfl, h2⟩
structure AccI (h0 h : Heap) (t : Task) (am ar : Option Addr) (cm cr : Nat) (l : List Turn) (b1 bD bb q : Nat) (rs : List Nat) : Prop where
 ext : Ext h0 h
 g1 : h.get b1 = some (.cells [i64 t.first, i64 t.days, .slice am t.machines.length cm, .slice ar t.reels.length cr] 25 false)
 gD : h.get bD = some (.cells (doneL l) 124 false)
 gb : h.get bb = some (.cells (benchC t am ar cm cr (.map none)) 116 false)
 gq : h.get q = some (.cells [i64 0] 26 false)
 co : Colls h0 h rs
theorem AccI.grow {h0 h h' : Heap} {t : Task} {am ar : Option Addr} {cm cr : Nat} {l : List Turn} {b1 bD bb q : Nat} {rs : List Nat} (a : AccI h0 h t am ar cm cr l b1 bD bb q rs) (he : Ext h h') : AccI h0 h' t am ar cm cr l b1 bD bb q rs :=
 ⟨a.ext.trans he, he.get a.g1, he.get a.gD, he.get a.gb, he.get a.gq, a.co.ext he⟩
theorem AccI.ck {h0 h h' : Heap} {t : Task} {am ar : Option Addr} {cm cr : Nat} {l : List Turn} {b1 bD bb q : Nat} {rs rs' : List Nat} (a : AccI h0 h t am ar cm cr l b1 bD bb q rs) (hk : CK h h') (he : Ext h0 h') (hC : Colls h0 h' rs') : AccI h0 h' t am ar cm cr l b1 bD bb q rs' :=
 ⟨he, hk _ _ _ _ a.g1, hk _ _ _ _ a.gD, hk _ _ _ _ a.gb, hk _ _ _ _ a.gq, hC⟩
end Go.Dw
