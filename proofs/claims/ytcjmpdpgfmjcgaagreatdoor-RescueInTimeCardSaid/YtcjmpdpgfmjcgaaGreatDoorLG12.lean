/- Q1: contracts: a place is sought (rescue.put and the closure in it). -/
import Derived.Test.YtcjmpdpgfmjcgaaGreatDoorLG2
import Derived.Test.YtcjmpdpgfmjcgaaGreatDoorLG11
import Derived.Test.YtcjmpdpgfmjcgaaGreatDoorLG10
namespace Go.Dw
open Go Go.Dx Go.Proofs Go.Mt
set_option maxRecDepth 100000
structure TK where
 h0 : Heap
 t : Task
 am : Option Addr
 ar : Option Addr
 cm : Nat
 cr : Nat
 bb : Nat
 c1 : Nat
 c2 : Nat
 c3 : Nat
 c4 : Nat
 bt : Nat
 bs : Nat
 gb : FuncId
 fb : List Value
 cb : List Value
 bar : Pl -> Bool
abbrev ptr (b : Nat) : Value := .pointer (some ⟨b, 0, none⟩)
def TK.adj (k : TK) : Nat -> Pl -> Prop := fun r p => p ∈ placesL k.t (r : Nat) /\ k.bar p = false
structure TK.At (k : TK) (h : Heap) : Prop where
 ext : Ext k.h0 h
 g1 : h.get k.c1 = some (.cells [ptr k.bb] 113 false)
 g2 : h.get k.c2 = some (.cells [.map (some k.bs)] 112 false)
 g3 : h.get k.c3 = some (.cells [.func (.func k.gb) ⟨k.fb⟩ ⟨k.cb⟩] 108 false)
 g4 : h.get k.c4 = some (.cells [.func (.func 141) ⟨[]⟩ ⟨[ptr k.c1, ptr k.c2, ptr k.c3, ptr k.c4]⟩] 100 false)
 gb : h.get k.bb = some (.cells (benchC k.t k.am k.ar k.cm k.cr (.map (some k.bt))) 116 false)
theorem TK.At.ck {k : TK} {h h' : Heap} (a : k.At h) (hk : CK h h') (he : Ext k.h0 h') : k.At h' := ⟨he, hk _ _ _ _ a.g1, hk _ _ _ _ a.g2, hk _ _ _ _ a.g3, hk _ _ _ _ a.g4, hk _ _ _ _ a.gb⟩
theorem TK.At.grow {k : TK} {h h' : Heap} (a : k.At h) (he : Ext h h') : k.At h' := a.ck (CK.of he) (a.ext.trans he)
structure TK.OK (k : TK) : Prop where
 hw : WF k.h0
 hM : RowsAt 2 MachAt k.h0 k.am k.t.machines
 hR : RowsAt 5 ReelAt k.h0 k.ar k.t.reels
 hf : k.t.Fit
 hV : Valid k.t
 bd : bodied Tryz.prog k.gb = true
 bar : ∀ h1, Ext k.h0 h1 -> ∀ p, Sv Tryz.prog k.gb (k.fb ++ ([plV p] ++ k.cb)) h1 (RetP fun v h2 => v = .bool (k.bar p) /\ Ext h1 h2)
 ne : k.bt ≠ k.bs
 n1 : k.h0.nx <= k.bt
 n2 : k.h0.nx <= k.bs
def TakenIs (h : Heap) (bt : Nat) (T : Pl -> Option Nat) : Prop := ∃ lt, MapB placeK h bt lt /\ ∀ p, lkp p lt = (T p).map fun r => i64 (r : Nat)
def SeenIs (h : Heap) (bs : Nat) (S : List Pl) : Prop := ∃ ls, MapB placeK h bs ls /\ ∀ p, lkp p ls = if p ∈ S then some (.bool true) else none
theorem TakenIs.some' {h h' : Heap} {b : Nat} {T : Pl -> Option Nat} (a : TakenIs h b T) (he : ∀ o, h.get b = some o -> h'.get b = some o) : TakenIs h' b T := by
 obtain ⟨l, h1, h2⟩ := a; exact ⟨l, MapB.some placeK h1 he, h2⟩
theorem SeenIs.some' {h h' : Heap} {b : Nat} {S : List Pl} (a : SeenIs h b S) (he : ∀ o, h.get b = some o -> h'.get b = some o) : SeenIs h' b S := by
 obtain ⟨l, h1, h2⟩ := a; exact ⟨l, MapB.some placeK h1 he, h2⟩
theorem TakenIs.ext {h h' : Heap} {b : Nat} {T : Pl -> Option Nat} (a : TakenIs h b T) (he : Ext h h') : TakenIs h' b T := a.some' fun _ => he.get
theorem SeenIs.ext {h h' : Heap} {b : Nat} {S : List Pl} (a : SeenIs h b S) (he : Ext h h') : SeenIs h' b S := a.some' fun _ => he.get
theorem TakenIs.ne {h : Heap} {b c : Nat} {T : Pl -> Option Nat} (a : TakenIs h b T) {vs : List Value} {el : TypeId} {op : Bool} (hg : h.get c = some (.cells vs el op)) : c ≠ b := by
 obtain ⟨l, h1, _⟩ := a; exact mapB_ne h1 hg
theorem SeenIs.ne {h : Heap} {b c : Nat} {S : List Pl} (a : SeenIs h b S) {vs : List Value} {el : TypeId} {op : Bool} (hg : h.get c = some (.cells vs el op)) : c ≠ b := by
 obtain ⟨l, h1, _⟩ := a; exact mapB_ne h1 hg
theorem TakenIs.lt {h : Heap} {b : Nat} {T : Pl -> Option Nat} (a : TakenIs h b T) (hw : WF h) : b < h.nx := by
 obtain ⟨l, h1, _⟩ := a; exact h1.lt placeK hw
theorem SeenIs.lt {h : Heap} {b : Nat} {S : List Pl} (a : SeenIs h b S) (hw : WF h) : b < h.nx := by
 obtain ⟨l, h1, _⟩ := a; exact h1.lt placeK hw
theorem TakenIs.mp {h : Heap} {b : Nat} {T : Pl -> Option Nat} (a : TakenIs h b T) : ∃ es c, h.get b = some (.map es c) := by
 obtain ⟨l, ⟨es, c, h1, _⟩, _⟩ := a; exact ⟨es, c, h1⟩
theorem SeenIs.mp {h : Heap} {b : Nat} {S : List Pl} (a : SeenIs h b S) : ∃ es c, h.get b = some (.map es c) := by
 obtain ⟨l, ⟨es, c, h1, _⟩, _⟩ := a; exact ⟨es, c, h1⟩
def unseen (t : Task) (S : List Pl) : Nat := (((List.range t.reels.length).flatMap fun (r : Nat) => placesL t (r : Nat)).filter fun p => decide (p ∉ S)).length
def TryPost (k : TK) (S : List Pl) (T : Pl -> Option Nat) (r : Nat) (h : Heap) (v : Value) (h' : Heap) : Prop :=
 ∃ S' T', Exb (fun b => b = k.bt \/ b = k.bs) h h' /\ TakenIs h' k.bt T' /\ SeenIs h' k.bs S' /\ S'.Nodup /\ (∀ q ∈ S, q ∈ S') /\ (∀ p s, T' p = some s -> s < k.t.reels.length) ∧
  ((v = .bool true /\ Won k.adj S T T' r) \/ (v = .bool false /\ T' = T /\ Lost k.adj S S' T r))
end Go.Dw
/- Q2: contracts: reels that fit (rescue.put, rescue.fits). -/
namespace Go.Dw
open Go Go.Dx Go.Proofs Go.Mt
set_option maxRecDepth 100000
abbrev adjB (t : Task) (bar : Pl -> Bool) : Nat -> Pl -> Prop := fun r p => p ∈ placesL t (r : Nat) /\ bar p = false
def PutPost (t : Task) (bar : Pl -> Bool) (bt : Nat) (T : Pl -> Option Nat) (r : Nat) (h : Heap) (v : Value) (h' : Heap) : Prop :=
 ∃ T', Exb (fun b => b = bt) h h' /\ TakenIs h' bt T' /\ (∀ p s, T' p = some s -> s < t.reels.length) ∧
  ((v = .bool true /\ Won (adjB t bar) [] T T' r) \/ (v = .bool false /\ T' = T /\ ∃ S' : List Pl, S'.Nodup /\ Lost (adjB t bar) [] S' T r))
def natsL (l : List Int) : List Nat := l.map Int.toNat
end Go.Dw
/- Q3: the contract of rescue.Fits; the plain law beside it. -/
namespace Go.Dw
open Go Go.Dx Go.Proofs Go.Mt
set_option maxRecDepth 100000
open Classical in
noncomputable def fitsS (t : Task) (l : List Int) : Bool × Int :=
 if errS t ≠ 0 then (false, errS t) else if mixedB t.reels.length (-1) l = true then (false, 2) else (decide (Fit (adjB t fun _ => false) (natsL l)), 0)
def tupB (x : Bool × Int) : Value := .tuple ⟨[.bool x.1, i64 x.2]⟩
end Go.Dw
