/- DyC: a closed run of the evaluator is a contract. -/
import Derived.Test.YtcjmpdpgfmjcgaaGreatDoorDyB
import Derived.RowKit3
namespace Go.Dx
variable {P : Program} {V : Nat → Nat → Bool}

def isT : VS → Bool
  | .ret (.bool true) _ => true
  | _ => false

theorem grown_of_adv {ι : Iota} {h h' : Heap} {w w' : World} {ι' : Iota} (ha : Adv ι h w ι' h' w') (hn : ∀ c, ¬ Rg ι h c) : RowKit.Grown w w' := by
  refine ⟨⟨ha.os, ha.out, fun i hi => ?_⟩, fun a => ?_, ha.sz⟩
  · rw [ha.fr i hi (hn i)]
    cases hq : w.heap[i]? with
    | none => rfl
    | some o => cases o <;> first | rfl | exact ⟨rfl, rfl, rfl, fun _ _ => rfl⟩ | exact .inr ⟨rfl, rfl⟩
  · rcases Nat.lt_or_ge a.block w.heap.size with h1 | h1
    · unfold World.frozen?; rw [ha.fr _ h1 (hn _)]
    · have hnone : w.heap[a.block]? = none := Array.getElem?_eq_none h1
      have h2 : w.frozen? a = false := by unfold World.frozen?; rw [hnone]
      rw [h2]
      unfold World.frozen?
      split
      · rename_i c t lo hi hq
        have := ha.fz a.block (fun o ho => by rw [hnone] at ho; cases ho) _ hq
        simp only [unfz, Prod.mk.injEq] at this
        rw [this.1, this.2]; simp
      · rfl

theorem closed_run (hm : P.follows .mixedOrders = true) {f : FuncId} {n g0 gl : Nat} (hg : gl ≤ g0) (hs : isT ((ev P V n).call f [] ⟨.e, g0, gl⟩) = true) (w : World) :
    Calls P f #[] w fun e w' => e = .returned (.bool true) ∧ RowKit.Grown w w' := by
  have hget : ∀ b, (⟨.e, g0, gl⟩ : Heap).get b = none := fun b => by unfold Heap.get; exact tget_e b
  have hr : HR (fun _ => none) ⟨.e, g0, gl⟩ w.heap :=
    ⟨(fun b o h => by rw [hget] at h; cases h), (fun b b' o o' bi bi' h => by rw [hget] at h; cases h), (fun b bi h => nomatch h), (fun g bi _ h => nomatch h), hg⟩
  have hnr : ∀ c, ¬ Rg (fun _ => none) (⟨.e, g0, gl⟩ : Heap) c := by
    rintro c ⟨b, o, bi, h1, _⟩; rw [hget] at h1; cases h1
  generalize hq : (ev P V n).call f [] ⟨.e, g0, gl⟩ = r at hs
  unfold isT at hs
  split at hs
  · rename_i h'
    refine ((ev_ok hm n).call hq (by simp) hr .nil).mono ?_
    rintro e w' ⟨ι', v', rfl, hv, _, ha⟩
    cases hv
    exact ⟨rfl, grown_of_adv ha hnr⟩
  · cases hs

end Go.Dx
