/- DxS: the abstract run is sound, part 2: one operation, calls, rounds. -/
import Derived.Test.YtcjmpdpgfmjcgaaGreatDoorDxR
namespace Go.Dx
variable {P : Program} {V : Nat → Nat → Bool} {ι : Iota}

theorem PostC.trans {fr : Fr} {h h1 h' : Heap} {ι1 : Iota} {w w1 : World} {x : AExit} {e' : Env} {ds' : List ADef} (ha : Adv ι h w ι1 h1 w1) {ex : Exit} {a' : Act} {w' : World}
    (hp : PostC V fr ι1 h1 w1 x e' ds' h' ex a' w') : PostC V fr ι h w x e' ds' h' ex a' w' := by
  obtain ⟨ι', a1, a2, a3, a4⟩ := hp
  exact ⟨ι', ha.trans a1, a2, a3, a4⟩

theorem run_callFunc {g : FuncId} (hb : bodied P g = true) (args : Array Value) (w : World) : (callFunc g args).run P w = .ok (.enter g args) w := by
  unfold bodied at hb
  split at hb
  · rename_i fn hf
    simp only [Bool.and_eq_true, Bool.not_eq_true'] at hb
    have h1 : fn.body.isNone = false := by
      cases hq : fn.body with
      | none => rw [hq] at hb; cases hb.1
      | some c => rfl
    simp only [callFunc, Sem.run_bind, run_program, Result.andThen_ok, hf, hb.2, Bool.false_eq_true, if_false, h1]
    rfl
  · cases hb

theorem VRL.arr {l : List Value} {a : Array Value} (h : VRL ι l a.toList) : ∃ l', a = ⟨l'⟩ ∧ VRL ι l l' := ⟨a.toList, rfl, h⟩

/-- A call of a function value with a body. -/
theorem run_call_fn {h : Heap} {w : World} {e : Env} {a : Act} (hr : HR ι h w.heap) (he : EnvR ι e a.tmps) {c : Call} {g : FuncId} {args : List Value} (hc : callOf P h e c = .fn g args) (ty : TypeId) :
    ∃ args' : Array Value, VRL ι args args'.toList ∧ (do let d ← resolve a.eval c ty; invoke d.target d.args : Sem Next).run P w = .ok (.enter g args') w := by
  unfold callOf at hc
  split at hc
  · rename_i f hf
    split at hc
    · rename_i g1 first cap args1 h1 h2
      cases hb : bodied P g1
      · rw [hb] at hc; cases hc
      · rw [hb] at hc
        simp only [Tgt.fn.injEq] at hc
        obtain ⟨rfl, rfl⟩ := hc
        have hv := opv_sound hr he h1
        have hl := opvl_sound hr he h2
        generalize hz : a.eval f = z at hv
        cases hv with
        | fn _ hfirst hcap =>
          rename_i first' cap'
          refine ⟨first' ++ c.args.map a.eval ++ cap', ?_, ?_⟩
          · have : (first' ++ c.args.map a.eval ++ cap').toList = first'.toList ++ (c.args.toList.map a.eval ++ cap'.toList) := by simp
            rw [this]
            exact hfirst.append (hl.append hcap)
          · simp only [resolve, hf, hz, Deferred.ofValue, Sem.run_bind, Sem.run_pure, Result.andThen_ok, invoke]
            exact run_callFunc hb _ w
    · cases hc
    · cases hc
  · cases hc

theorem run_call_yield {h : Heap} {w : World} {e : Env} {a : Act} (hr : HR ι h w.heap) (he : EnvR ι e a.tmps) {c : Call} {l : Nat} {args : List Value} (hc : callOf P h e c = .yield l args) (ty : TypeId) :
    ∃ (bi : BI) (args' : Array Value), ι l = some bi ∧ VRL ι args args'.toList ∧ (do let d ← resolve a.eval c ty; invoke d.target d.args : Sem Next).run P w = (Instr.yield bi.blk args').run P w := by
  unfold callOf at hc
  split at hc
  · rename_i f hf
    split at hc
    · rename_i g1 first cap args1 h1 h2
      cases hb : bodied P g1
      · rw [hb] at hc; cases hc
      · rw [hb] at hc; cases hc
    · rename_i l1 args1 h1 h2
      simp only [Tgt.yield.injEq] at hc
      obtain ⟨rfl, rfl⟩ := hc
      have hv := opv_sound hr he h1
      have hl := opvl_sound hr he h2
      generalize hz : a.eval f = z at hv
      cases hv with
      | yield hb =>
        rename_i bi
        refine ⟨bi, c.args.map a.eval, hb, by simpa using hl, ?_⟩
        simp only [resolve, hf, hz, Deferred.ofValue, Sem.run_bind, Sem.run_pure, Result.andThen_ok, invoke]
        simp
    · cases hc
  · cases hc

/-! ### rounds -/
theorem HR.loopAt {h : Heap} {w : World} (hr : HR ι h w.heap) {b : Nat} {bi : BI} {st : LoopState} {pend : Option Code} {fn : FuncId} {nt : Nat} {env : Env} {ps : Array Tmp} {as bd : Code} {r : Nat}
    (hg : h.get b = some (.loop st pend fn nt env ps as bd r)) (hi : ι b = some bi) :
    ∃ l : Loop, w.heap[bi.blk]? = some (.loop l) ∧ l.state = st ∧ l.pending = pend ∧ l.tmps.size = nt ∧ EnvR ι env l.tmps ∧ l.params = ps ∧ l.assign = as ∧ l.body = bd ∧ ∃ bi', ι r = some bi' ∧ l.defers = bi'.blk := by
  obtain ⟨bi', o', i1, hw, ho⟩ := hr.obj b _ hg
  rw [hi] at i1; cases i1
  cases o' <;> simp only [OR] at ho
  exact ⟨_, hw, ho⟩
theorem run_getLoop {w : World} {r : Nat} {l : Loop} (h : w.heap[r]? = some (.loop l)) : (Instr.getLoop r).run P w = .ok l w := by simp [Instr.getLoop, getObj, Sem.run, h]
theorem run_setLoop {w : World} {r : Nat} {l : Loop} (h : w.heap[r]? = some (.loop l)) (o : Obj) : (setObj r o).run P w = .ok () { w with heap := w.heap.setIfInBounds r o } := by simp [setObj, Sem.run, h]

theorem zipP_sound {fr : Fr} : ∀ {ps : List Tmp} {as : List Value} {as' : List Value} {e e' : Env} {ds : List ADef} {a : Act}, FR V fr ι e ds a → VRL ι as as' → zipP V fr ps as e = some e' →
    FR V fr ι e' ds { a with tmps := (ps.zip as').foldl (fun t (p, v) => t.setIfInBounds p v) a.tmps } ∧ ps.length = as'.length := by
  intro ps
  induction ps with
  | nil =>
    intro as as' e e' ds a hf hv hz
    cases as with
    | nil => cases hv; simp only [zipP, Option.some.injEq] at hz; subst hz; exact ⟨hf, rfl⟩
    | cons => simp [zipP] at hz
  | cons p ps ih =>
    intro as as' e e' ds a hf hv hz
    cases as with
    | nil => simp [zipP] at hz
    | cons x as =>
      cases hv with
      | cons hx ht =>
        rename_i x' l'
        simp only [zipP] at hz
        cases hb : Nat.blt p fr.nt
        · rw [hb] at hz; cases hz
        · rw [hb] at hz
          have h1 := hf.putE (d := p) (Nat.le_of_ble_eq_true hb) hx
          obtain ⟨h2, h3⟩ := ih h1 ht hz
          exact ⟨h2, by simp [h3]⟩

theorem FR.env_loop {fr : Fr} {e : Env} {tmps : Array Value} (he : EnvR ι e tmps) (hi : EI V fr.fn e) (hs : tmps.size = fr.nt) : FR V fr ι e [] { tmps := tmps, defers := [] } := ⟨he, hi, hs, .nil⟩

theorem jumpOf_post {l : Nat} {R : Ending → World → Prop} {x : AExit} {ex : Exit} {j : Option Code} {a : Act} {w : World} (hx : XR ι x ex) (hj : jumpOf x = some j)
    (h : ∃ v w', (Instr.endRound l j).run P w = .ok v w' ∧ R (.returned v) w') : roundPost P l R ex a w := by
  cases hx <;> simp only [jumpOf, Option.some.injEq] at hj <;> first | (subst hj; exact h) | cases hj

end Go.Dx
