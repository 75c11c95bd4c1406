/- C5: workshops in memory; contracts: the parts of Check (chapter 04). -/
import Derived.Test.YtcjmpdpgfmjcgaaGreatDoorLG2
import Derived.Test.YtcjmpdpgfmjcgaaGreatDoorLG4
namespace Go.Dw
open Go Go.Dx Go.Proofs
set_option maxRecDepth 100000
structure Mach where
 name : List UInt8
 places : List Int
structure Reel where
 name : List UInt8
 machines : List Int
 ready : Int
 due : Int
 risk : Int
structure Task where
 first : Int
 days : Int
 machines : List Mach
 reels : List Reel
structure Reel.Fit (r : Reel) : Prop where
 name : Len r.name
 ms : Len r.machines
 msI : ∀ n ∈ r.machines, I64 n
 ready : I64 r.ready
 due : I64 r.due
 risk : I64 r.risk
structure Mach.Fit (m : Mach) : Prop where
 name : Len m.name
 pl : Len m.places
 plI : ∀ n ∈ m.places, I64 n
structure Task.Fit (t : Task) : Prop where
 first : I64 t.first
 days : I64 t.days
 ms : Len t.machines
 rs : Len t.reels
 msF : ∀ m ∈ t.machines, m.Fit
 rsF : ∀ r ∈ t.reels, r.Fit
def MachAt (h : Heap) (row : List Value) (m : Mach) : Prop := ∃ a cap, row = [str m.name, .slice a m.places.length cap] /\ IntsAt h a m.places
def ReelAt (h : Heap) (row : List Value) (r : Reel) : Prop := ∃ a cap, row = [str r.name, .slice a r.machines.length cap, i64 r.ready, i64 r.due, i64 r.risk] /\ IntsAt h a r.machines
def TaskAt (h : Heap) (row : List Value) (t : Task) : Prop := ∃ am cm ar cr, row = [i64 t.first, i64 t.days, .slice am t.machines.length cm, .slice ar t.reels.length cr] /\ RowsAt 2 MachAt h am t.machines /\ RowsAt 5 ReelAt h ar t.reels
theorem MachAt.ext {h h' : Heap} {row : List Value} {m : Mach} (a : MachAt h row m) (he : Ext h h') : MachAt h' row m := by
 obtain ⟨x, c, h1, h2⟩ := a; exact ⟨x, c, h1, h2.ext he⟩
theorem ReelAt.ext {h h' : Heap} {row : List Value} {m : Reel} (a : ReelAt h row m) (he : Ext h h') : ReelAt h' row m := by
 obtain ⟨x, c, h1, h2⟩ := a; exact ⟨x, c, h1, h2.ext he⟩
theorem TaskAt.ext {h h' : Heap} {row : List Value} {t : Task} (a : TaskAt h row t) (he : Ext h h') : TaskAt h' row t := by
 obtain ⟨a, b, c, d, h1, h2, h3⟩ := a
 exact ⟨a, b, c, d, h1, RowsAt.ext (R := MachAt) (fun x y => MachAt.ext x y) h2 he, RowsAt.ext (R := ReelAt) (fun x y => ReelAt.ext x y) h3 he⟩
def nameErr (s : List UInt8) (before : List (List UInt8)) : Int := if nameR s = false then 6 else if s ∈ before then 5 else 0
def machErr (t : Task) (m : Mach) : Int := if (m.places.length : Int) ≠ t.days then 2 else if (m.places.any fun n => decide (n < 0 \/ 20 < n)) = true then 7 else 0
def desc : List Int -> Bool
 | a :: b :: l => decide (b <= a) || desc (b :: l)
 | _ => false
def reelErr (t : Task) (r : Reel) : Int :=
 if r.machines = [] then 3 else if (r.machines.any fun n => decide (n < 0 \/ (t.machines.length : Int) - 1 < n)) = true then 4 else if desc r.machines = true then 2
 else if (r.ready < t.first \/ t.first + t.days - 1 < r.ready) \/ (r.due < r.ready \/ t.first + t.days - 1 < r.due) \/ (r.risk < 1 \/ 1000000 < r.risk) then 7 else 0
def goM (t : Task) : Nat -> List (List UInt8) -> List Mach -> Option (Int × Int × Int)
 | _, _, [] => none
 | i, before, m :: ms => if nameErr m.name before ≠ 0 then some (2, i, nameErr m.name before) else if machErr t m ≠ 0 then some (2, i, machErr t m) else goM t (i + 1) (before ++ [m.name]) ms
def goR (t : Task) : Nat -> List (List UInt8) -> List Reel -> Option (Int × Int × Int)
 | _, _, [] => none
 | i, before, r :: rs => if nameErr r.name before ≠ 0 then some (3, i, nameErr r.name before) else if reelErr t r ≠ 0 then some (3, i, reelErr t r) else goR t (i + 1) (before ++ [r.name]) rs
def checkS (t : Task) : Int × Int × Int :=
 if (t.first < 0 \/ 80000 < t.first) \/ (t.days < 1 \/ 60 < t.days) \/ 80000 < t.first + t.days - 1 then (1, 0, 7)
 else if (t.machines.length < 1 \/ 4 < t.machines.length) \/ 24 < t.reels.length then (1, 0, 3)
 else match goM t 0 [] t.machines with
  | some e => e
  | none => match goR t 0 [] t.reels with
   | some e => e
   | none => (0, 0, 0)
def tup3 (x : Int × Int × Int) : Value := .tuple ⟨[i64 x.1, i64 x.2.1, i64 x.2.2]⟩
end Go.Dw
/- C6: contracts: the error of a reel (telecineref04.reel, rescue.odd). -/
namespace Go.Dw
open Go Go.Dx Go.Proofs
set_option maxRecDepth 100000
def reelAll (t : Task) (r : Reel) (before : List (List UInt8)) : Int := if nameErr r.name before ≠ 0 then nameErr r.name before else reelErr t r
end Go.Dw
/- C7: contracts: rescue.mixed, rescue.odd. -/
namespace Go.Dw
open Go Go.Dx Go.Proofs
set_option maxRecDepth 100000
def mixedB (many : Int) : Int -> List Int -> Bool
 | _, [] => false
 | before, n :: l => if n < before + 1 \/ many - 1 < n then true else mixedB many n l
end Go.Dw
/- C8: the contract of rescue.Check. -/
namespace Go.Dw
open Go Go.Dx Go.Proofs
set_option maxRecDepth 100000
theorem ba_beq (a b : List UInt8) : ((⟨⟨a⟩⟩ : ByteArray) == ⟨⟨b⟩⟩) = decide (a = b) := by
 have : ((⟨⟨a⟩⟩ : ByteArray) == ⟨⟨b⟩⟩) = ((⟨a⟩ : Array UInt8) == ⟨b⟩) := rfl
 rw [this, Bool.eq_iff_iff]; simp
noncomputable def strK : KeyK Tryz.prog 9 (List UInt8) where
 enc := str
 ks := .basic .string
 hks := by kernel_rfl
 flat := fun _ => rfl
 ok := fun _ => rfl
 eq := fun a b => by
  show Instr.sameNow .string (str a) (str b) = _
  simp [Instr.sameNow, ba_beq]
 same := fun a => by simp [Instr.sameBits, ba_beq]
structure CkI (h0 h : Heap) (b1 bm : Nat) (tc : List Value) (before : List (List UInt8)) : Prop where
 ext : Ext h0 h
 g1 : h.get b1 = some (.cells tc 25 false)
 mp : ∃ l, MapAt strK h bm l /\ ∀ s, lkp s l = if s ∈ before then some (.bool true) else none
 lt : h0.nx <= bm
theorem CkI.grow {h0 h h' : Heap} {b1 bm : Nat} {tc : List Value} {before : List (List UInt8)} (c : CkI h0 h b1 bm tc before) (he : Ext h h') : CkI h0 h' b1 bm tc before := by
 obtain ⟨l, m1, m2⟩ := c.mp
 exact ⟨c.ext.trans he, he.get c.g1, ⟨l, m1.ext _ he, m2⟩, c.lt⟩
theorem CkI.upd {h0 h h' : Heap} {b1 bm x : Nat} {tc : List Value} {before : List (List UInt8)} {o : AO} (c : CkI h0 h b1 bm tc before) (u : Upd h x o h') (hw : WF h0) (hx : h0.nx <= x) (h1 : b1 ≠ x) (h2 : bm ≠ x) : CkI h0 h' b1 bm tc before := by
 obtain ⟨l, m1, m2⟩ := c.mp
 exact ⟨u.ext c.ext hw hx, u.get h1 c.g1, ⟨l, m1.get _ (u.other _ h2), m2⟩, c.lt⟩
end Go.Dw
/- C9: the contract of telecineref04.Check. -/
namespace Go.Dw
open Go Go.Dx Go.Proofs
set_option maxRecDepth 100000
end Go.Dw
