/- Y1: contracts: the library's sorting of numbers. -/
import Derived.Test.YtcjmpdpgfmjcgaaGreatDoorLG18
import Derived.Test.YtcjmpdpgfmjcgaaGreatDoorLG2
import Derived.Test.YtcjmpdpgfmjcgaaGreatDoorLG15
namespace Go.Dw
open Go Go.Dx Go.Proofs Go.Sort
set_option maxRecDepth 100000
section
variable {α : Type} [Inhabited α] {enc : α -> Value} {w : World} {blk n : Nat} {os : Array Obj} {c : Array Value} {el : TypeId} {d : Array α}
end
end Go.Dw
/- Y2: contracts: the library's sorting of late reels. -/
namespace Go.Dw
open Go Go.Dx Go.Proofs Go.Sort Go.RowKit Go.Lib
set_option maxRecDepth 100000
def LateE : Type := { p : Int × Value // 0 <= p.1 /\ p.1 < 1000000 /\ p.2.oneCell' = true }
instance : Inhabited LateE := ⟨⟨(0, .int .i64 0), by decide, by decide, rfl⟩⟩
def encL (x : LateE) : List Value := [i64 x.1.1, x.1.2]
def cfL (x y : LateE) : Int := x.1.1 - y.1.1
end Go.Dw
/- Y3: contracts: the library's Grow over nil; appending where there is room. -/
namespace Go.Dw
open Go Go.Dx Go.Proofs
set_option maxRecDepth 100000
section
variable {P : Program} {m : Mem} {h : Heap} {d : Option Tmp} {ty : TypeId} {pos : String} {af : Array Edge} {gu : Option (Nat × Bool)}
end
section
variable {P : Program} {fr : Fr} {m : Mem} {ds : List ADef} {h : Heap} {Q : CQ} {ops : Array Oper} {lo : List Oper} {d : Nat} {ty : TypeId} {pos : String} {af : Array Edge} {gu : Option (Nat × Bool)}
end
end Go.Dw
/- Y4: contracts: the library's Concat of slices of numbers. -/
namespace Go.Dw
open Go Go.Dx Go.Proofs
set_option maxRecDepth 100000
def lenS (L : List (Value × List Value)) : Nat := (L.flatMap Prod.snd).length
end Go.Dw
/- Y5: contracts: the program's own choose. -/
namespace Go.Dw
open Go Go.Dx Go.Proofs Go.Mt
set_option maxRecDepth 100000
abbrev rsv (h : Heap) : Heap := ⟨h.t, Nat.succ h.nx, h.gl⟩
theorem Ext.rsv (h : Heap) : Ext h (rsv h) := ⟨fun _ _ x => x, Nat.le_succ _, rfl⟩
theorem WF.rsv {h : Heap} (hw : WF h) : WF (rsv h) := fun c x hc => Nat.lt_succ_of_lt (hw c x hc)
theorem WF.upd {h h' : Heap} {b : Nat} {o : AO} (hw : WF h) (hU : Upd h b o h') (hb : b < h.nx) : WF h' := fun c x hc => by
 rw [hU.nx]
 by_cases e : c = b
 ·omega
 ·rw [hU.other c e] at hc; exact hw c x hc
noncomputable def latP (p : Nat × List Nat) : Lat := ⟨(p.1 : Int), sortI (ints p.2)⟩
end Go.Dw
/- Y6: contracts: the program's own Plan, part 1: places given. -/
namespace Go.Dw
open Go Go.Dx Go.Proofs Go.Mt
set_option maxRecDepth 100000
def GivenIs (h : Heap) (bm : Nat) (G : List Pl) : Prop := ∃ lu, MapB placeK h bm lu /\ Once lu /\ ∀ p, lkp p lu = if p ∈ G then some (.bool true) else none
theorem GivenIs.some' {h h' : Heap} {b : Nat} {G : List Pl} (a : GivenIs h b G) (he : ∀ o, h.get b = some o -> h'.get b = some o) : GivenIs h' b G := by
 obtain ⟨l, h1, h2⟩ := a; exact ⟨l, MapB.some placeK h1 he, h2⟩
theorem GivenIs.ext {h h' : Heap} {b : Nat} {G : List Pl} (a : GivenIs h b G) (he : Ext h h') : GivenIs h' b G := a.some' fun _ => he.get
theorem GivenIs.congr {h : Heap} {b : Nat} {G G' : List Pl} (a : GivenIs h b G) (hg : ∀ p, p ∈ G ↔ p ∈ G') : GivenIs h b G' := by
 obtain ⟨l, h1, h2, h3⟩ := a
 refine ⟨l, h1, h2, fun p => ?_⟩
 rw [h3]; simp only [hg p]
def givI (bm : Nat) (G : List Pl) : It where
 S := fun c => c = bm
 p := fun h => GivenIs h bm G
 loc := fun hk a => a.some' fun o ho => hk _ o rfl ho
 ex := fun {h c} a hc => by obtain ⟨l, ⟨es, cl, h1, _⟩, _⟩ := a; exact ⟨_, hc ▸ h1⟩
end Go.Dw
/- Y7: contracts: the program's own Plan, part 2. -/
namespace Go.Dw
open Go Go.Dx Go.Proofs Go.Mt
set_option maxRecDepth 100000
theorem Own.join {h0 h h' : Heap} {l l2 : List It} (hO : Own h0 h l) (hw : WF h) (hn : h0.nx <= h.nx) (he : Ext h h') (h2 : Own h h' l2) : Own h0 h' (l2 ++ l) := by
 refine ⟨fun x hx => ?_, fun x hx c hc => ?_, List.pairwise_append.2 ⟨h2.ap, hO.ap, fun y hy z hz c hc hzc => ?_⟩⟩
 ·rcases List.mem_append.1 hx with g | g
  ·exact h2.has x g
  ·exact (hO.ext he).has x g
 ·rcases List.mem_append.1 hx with g | g
  ·exact Nat.le_trans hn (h2.lo x g c hc)
  ·exact hO.lo x g c hc
 ·obtain ⟨o, ho⟩ := z.ex (hO.has z hz) hzc
  have h3 := h2.lo y hy c hc
  have := hw _ _ ho; omega
theorem Own.shuf {h0 h : Heap} {l : List It} (hO : Own h0 h l) (x : It) (p q : List Nat) (hp : p.Perm q) (e : l = p.map fun i => l.getD i x) : Own h0 h (q.map fun i => l.getD i x) := hO.perm ((List.Perm.of_eq e).trans (hp.map _))
theorem FreshSl.del {h0 h1 h : Heap} {v : Value} {el : TypeId} {sz n : Nat} {cs : List Value} {rs : List Nat} (hF : FreshSl h0 h v el sz cs n) (hC : Colls h1 h rs) : FreshSl h0 (delL h rs) v el sz cs n := hF.keep fun b o hb hg => by
 obtain ⟨op, h2⟩ := hF.got hb
 rw [h2] at hg; cases hg
 exact hC.get h2
theorem Own.at {h0 h : Heap} {l : List It} (hO : Own h0 h l) (n : Nat) {x : It} (e : l[n]? = some x) : x.p h := hO.has x (List.mem_of_getElem? e)
def loI (b : Nat) (o : AO) : It where
 S := fun c => c = b
 p := fun h => h.get b = some o
 loc := fun hk hp => hk _ _ rfl hp
 ex := fun hp hc => ⟨_, hc ▸ hp⟩
theorem Own.loSet {h0 h h' : Heap} {l : List It} {b : Nat} {o o' : AO} (hO : Own h0 h (loI b o :: l)) (hw0 : WF h0) (he0 : Ext h0 h) (hU : Upd h b o' h') : Own h0 h' (loI b o' :: l) /\ Ext h0 h' := by
 have hap := List.pairwise_cons.1 hO.ap
 refine ⟨⟨fun x hx => ?_, fun x hx c hc => ?_, List.pairwise_cons.2 ⟨fun z hz c hc => hap.1 z hz c hc, hap.2⟩⟩, hU.ext he0 hw0 (hO.lo _ List.mem_cons_self b rfl)⟩
 ·rcases List.mem_cons.1 hx with rfl | hx
  ·exact hU.at'
  ·exact x.loc (fun c o hc hg => hU.get (fun e => hap.1 x hx c e hc) hg) (hO.has x (List.mem_cons_of_mem _ hx))
 ·rcases List.mem_cons.1 hx with rfl | hx
  ·exact hO.lo _ List.mem_cons_self c hc
  ·exact hO.lo x (List.mem_cons_of_mem _ hx) c hc
end Go.Dw
