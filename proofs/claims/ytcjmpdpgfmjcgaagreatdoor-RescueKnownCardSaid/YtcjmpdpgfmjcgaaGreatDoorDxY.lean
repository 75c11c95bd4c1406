/- DxY: the abstract run is sound, part 8: views, new blocks, loose blocks, the quiet operations of a phase. -/
import Derived.Test.YtcjmpdpgfmjcgaaGreatDoorDxX
namespace Go.Dx
variable {P : Program} {V : Nat → Nat → Bool} {ι : Iota}

/-! ### views -/
theorem view_cons (fn : FuncId) (e : Env) (t : Tmp) (l : List Tmp) : view V fn e (t :: l) = match lk t e with | some v => putE V fn t v (view V fn e l) | none => view V fn e l := rfl
theorem view_sound {fn : FuncId} {e : Env} : ∀ (l : List Tmp), EI V fn (view V fn e l) ∧ ∀ t v, lk t (view V fn e l) = some v → t ∈ l ∧ lk t e = some v := by
  intro l
  induction l with
  | nil => exact ⟨⟨(fun p hp => nomatch hp), (fun p hp => nomatch hp)⟩, fun t v h => by simp [view, lk_eq, lkL_nil] at h⟩
  | cons s l ih =>
    rw [view_cons]
    split
    · rename_i x hx
      refine ⟨ih.1.putE s x, fun t v h => ?_⟩
      rw [lk_putE ih.1] at h
      by_cases e1 : s = t
      · subst e1
        simp at h; subst h
        exact ⟨List.mem_cons_self, hx⟩
      · simp [e1] at h
        exact ⟨List.mem_cons_of_mem _ (ih.2 t v h).1, (ih.2 t v h).2⟩
    · exact ⟨ih.1, fun t v h => ⟨List.mem_cons_of_mem _ (ih.2 t v h).1, (ih.2 t v h).2⟩⟩

theorem viewL_cons (e : Env) (t : Tmp) (l : List Tmp) : viewL e (t :: l) = match lk t e with | some v => (t, v) :: viewL e l | none => viewL e l := by
  show @Option.rec Value (fun _ => List (Nat × Value)) (viewL e l) (fun v => (t, v) :: viewL e l) (lk t e) = _
  cases lk t e <;> rfl
theorem viewQ_sound {e : Env} (l : List Tmp) : ∀ t v, lk t (viewQ e l) = some v → t ∈ l ∧ lk t e = some v := by
  intro t v h
  rw [lk_eq] at h
  have h' : lkL t (viewL e l) = some v := by
    simp only [viewQ, lkL_nil] at h
    cases hq : lkL t (viewL e l) with
    | none => rw [hq] at h; cases h
    | some x => rw [hq] at h; exact h
  clear h
  induction l with
  | nil => exact absurd h' (by show lkL t [] ≠ _; rw [lkL_nil]; simp)
  | cons s l ih =>
    rw [viewL_cons] at h'
    cases hq : lk s e with
    | none => rw [hq] at h'; exact ⟨List.mem_cons_of_mem _ (ih h').1, (ih h').2⟩
    | some x =>
      rw [hq] at h'
      simp only [lkL_cons] at h'
      by_cases e1 : s = t
      · subst e1
        simp at h'; subst h'
        exact ⟨List.mem_cons_self, hq⟩
      · simp [e1] at h'
        exact ⟨List.mem_cons_of_mem _ (ih h').1, (ih h').2⟩
theorem viewL_congr {e e' : Env} : ∀ {l : List Tmp}, (∀ t ∈ l, lk t e = lk t e') → viewL e l = viewL e' l := by
  intro l
  induction l with
  | nil => intro _; rfl
  | cons s l ih =>
    intro h
    rw [viewL_cons, viewL_cons, h s List.mem_cons_self, ih fun t ht => h t (List.mem_cons_of_mem _ ht)]
theorem viewQ_congr {e e' : Env} {l : List Tmp} (h : ∀ t ∈ l, lk t e = lk t e') : viewQ e l = viewQ e' l := by
  unfold viewQ; rw [viewL_congr h]

/-! ### heaps -/
theorem HR.weaken {h H : Heap} {hp : Array Obj} (hr : HR ι H hp) (hs : ∀ b o, h.get b = some o → H.get b = some o) (hn : H.nx ≤ h.nx) (hg : h.gl = H.gl) : HR ι h hp where
  obj := fun b o hb => hr.obj b o (hs b o hb)
  inj := fun b b' o o' bi bi' h1 h2 => hr.inj b b' o o' bi bi' (hs _ _ h1) (hs _ _ h2)
  fresh := fun b bi hb => Nat.lt_of_lt_of_le (hr.fresh b bi hb) hn
  glo := fun g bi hgl => hr.glo g bi (by rw [← hg]; exact hgl)
  gn := by rw [hg]; exact Nat.le_trans hr.gn hn

/-- A new block under a number that was set aside. -/
theorem HR.addAt {h : Heap} {hp : Array Obj} (hr : HR ι h hp) {b : Nat} {o : AO} {o' : Obj} {bi : BI} (hb : bi.blk = hp.size) (hnone : ι b = none) (hlt : b < h.nx) (_hn : True) (hgl : h.gl ≤ b) (ho : OR (upd ι b bi) bi o o') :
    HR (upd ι b bi) (h.set b o) (hp.push o') ∧ Sub ι (upd ι b bi) ∧ (∀ c, c < hp.size → (hp.push o')[c]? = hp[c]?) ∧ (∀ c, Rg (upd ι b bi) (h.set b o) c → c < hp.size → Rg ι h c) := by
  have hsub : Sub ι (upd ι b bi) := fun c x hc => by
    have : c ≠ b := fun e => by rw [e, hnone] at hc; cases hc
    rw [upd_other _ _ this]; exact hc
  have hsame : (h.set b o).get b = some o := by unfold Heap.get Heap.set; exact tget_tset_same h.t b (some o)
  have hdom : ∀ c x, (h.set b o).get c = some x → (c = b ∧ x = o) ∨ (c ≠ b ∧ h.get c = some x) := by
    intro c x hx
    by_cases e : c = b
    · subst e; rw [hsame] at hx; cases hx; exact .inl ⟨rfl, rfl⟩
    · rw [Heap.get_set_other _ e] at hx; exact .inr ⟨e, hx⟩
  have hpush : ∀ c, c < hp.size → (hp.push o')[c]? = hp[c]? := fun c hc => by rw [Array.getElem?_push, if_neg (by omega)]
  refine ⟨⟨?_, ?_, ?_, ?_, hr.gn⟩, hsub, hpush, ?_⟩
  · intro c x hx
    rcases hdom c x hx with ⟨rfl, rfl⟩ | ⟨h1, h2⟩
    · exact ⟨bi, o', upd_same _ _ _, by rw [hb]; simp, ho⟩
    · obtain ⟨bi', x', e1, e2, e3⟩ := hr.obj c x h2
      refine ⟨bi', x', hsub _ _ e1, ?_, e3.mono hsub⟩
      rw [hpush _ (Array.getElem?_eq_some_iff.1 e2).1]; exact e2
  · intro c c' x x' bi1 bi2 g1 g2 i1 i2 heq
    rcases hdom c x g1 with ⟨rfl, rfl⟩ | ⟨h1, h2⟩ <;> rcases hdom c' x' g2 with ⟨rfl, rfl⟩ | ⟨h1', h2'⟩
    · rfl
    · exfalso
      rw [upd_same] at i1; cases i1
      rw [upd_other _ _ h1'] at i2
      have := hr.blk_lt ⟨c', x', bi2, h2', i2, rfl⟩
      omega
    · exfalso
      rw [upd_same] at i2; cases i2
      rw [upd_other _ _ h1] at i1
      have := hr.blk_lt ⟨c, x, bi1, h2, i1, rfl⟩
      omega
    · rw [upd_other _ _ h1] at i1; rw [upd_other _ _ h1'] at i2
      exact hr.inj c c' x x' bi1 bi2 h2 h2' i1 i2 heq
  · intro c x hx
    by_cases e : c = b
    · subst e; exact hlt
    · rw [upd_other _ _ e] at hx; exact hr.fresh c x hx
  · intro g x hg hx
    have : g < h.gl := hg
    have e : g ≠ b := by omega
    rw [upd_other _ _ e] at hx; exact hr.glo g x hg hx
  · rintro c ⟨d, x, bi1, g1, i1, rfl⟩ hc
    rcases hdom d x g1 with ⟨rfl, rfl⟩ | ⟨h1, h2⟩
    · rw [upd_same] at i1; cases i1; omega
    · rw [upd_other _ _ h1] at i1; exact ⟨d, x, bi1, h2, i1, rfl⟩

/-- A block that the smaller heap does not speak of stays where and what it is. -/
theorem HR.loose {h H h' : Heap} {w w' : World} {ι' : Iota} (hr : HR ι H w.heap) (hs : ∀ b o, h.get b = some o → H.get b = some o) (hr' : HR ι' h' w'.heap) (ha : Adv ι h w ι' h' w') {b : Nat} {o : AO} (hb : H.get b = some o) (hno : h.get b = none) :
    ∃ bi o', ι b = some bi ∧ ι' b = some bi ∧ bi.blk < w.heap.size ∧ w'.heap[bi.blk]? = some o' ∧ OR ι' bi o o' ∧ h'.get b = none ∧ ¬ Rg ι' h' bi.blk := by
  obtain ⟨bi, o', e1, e2, e3⟩ := hr.obj b o hb
  have hlt := (Array.getElem?_eq_some_iff.1 e2).1
  have hnr : ¬ Rg ι h bi.blk := by
    rintro ⟨b2, o2, bi2, g1, g2, g3⟩
    have := hr.inj b2 b o2 o bi2 bi (hs _ _ g1) hb g2 e1 g3
    subst this
    rw [hno] at g1; cases g1
  have hnr' : ¬ Rg ι' h' bi.blk := fun hq => hnr (ha.dm _ hq hlt)
  refine ⟨bi, o', e1, ha.sub _ _ e1, hlt, by rw [ha.fr _ hlt hnr]; exact e2, e3.mono ha.sub, ?_, hnr'⟩
  cases hq : h'.get b with
  | none => rfl
  | some x => exact absurd ⟨b, x, bi, hq, ha.sub _ _ e1, rfl⟩ hnr'

/-- The smaller heap went on; the loose blocks are laid beside it again. -/
theorem HR.join {h H h' H' : Heap} {w w' : World} {ι' : Iota} (hr : HR ι H w.heap) (hs : ∀ b o, h.get b = some o → H.get b = some o) (hr' : HR ι' h' w'.heap) (ha : Adv ι h w ι' h' w') (hn : h.nx = H.nx) (hg : h.gl = H.gl)
    (hd : ∀ b o, H'.get b = some o → h'.get b = some o ∨ (H.get b = some o ∧ h.get b = none)) (hn' : H'.nx = h'.nx) (hg' : H'.gl = h'.gl) : HR ι' H' w'.heap ∧ Adv ι H w ι' H' w' := by
  refine ⟨⟨?_, ?_, ?_, ?_, ?_⟩, ⟨ha.sub, ha.sz, ?_, ?_, ?_, ?_, ?_, ha.os, ha.out, ha.fz⟩⟩
  · intro b o hb
    rcases hd b o hb with h1 | ⟨h1, h2⟩
    · exact hr'.obj b o h1
    · obtain ⟨bi, o', e1, e2, e3, e4, e5, _⟩ := hr.loose hs hr' ha h1 h2
      exact ⟨bi, o', e2, e4, e5⟩
  · intro b b' o o' bi bi' g1 g2 i1 i2 heq
    rcases hd b o g1 with h1 | ⟨h1, h2⟩ <;> rcases hd b' o' g2 with h1' | ⟨h1', h2'⟩
    · exact hr'.inj b b' o o' bi bi' h1 h1' i1 i2 heq
    · obtain ⟨bj, _, e1, e2, e3, e4, e5, e6, e7⟩ := hr.loose hs hr' ha h1' h2'
      rw [i2] at e2; cases e2
      exact absurd ⟨b, o, bi, h1, i1, heq⟩ e7
    · obtain ⟨bj, _, e1, e2, e3, e4, e5, e6, e7⟩ := hr.loose hs hr' ha h1 h2
      rw [i1] at e2; cases e2
      exact absurd ⟨b', o', bi', h1', i2, heq.symm⟩ e7
    · obtain ⟨bj, _, e1, e2, _⟩ := hr.loose hs hr' ha h1 h2
      obtain ⟨bj', _, e1', e2', _⟩ := hr.loose hs hr' ha h1' h2'
      rw [i1] at e2; cases e2
      rw [i2] at e2'; cases e2'
      exact hr.inj b b' o o' bi bi' h1 h1' e1 e1' heq
  · intro b bi hb; rw [hn']; exact hr'.fresh b bi hb
  · intro g bi hgl hb; exact hr'.glo g bi (by rw [← hg']; exact hgl) hb
  · rw [hn', hg']; exact hr'.gn
  · intro c hc hno
    refine ha.fr c hc ?_
    rintro ⟨b, o, bi, g1, g2, g3⟩
    exact hno ⟨b, o, bi, hs _ _ g1, g2, g3⟩
  · rintro c ⟨b, o, bi, g1, g2, rfl⟩ hc
    rcases hd b o g1 with h1 | ⟨h1, h2⟩
    · obtain ⟨b2, o2, bi2, q1, q2, q3⟩ := ha.dm _ ⟨b, o, bi, h1, g2, rfl⟩ hc
      exact ⟨b2, o2, bi2, hs _ _ q1, q2, q3⟩
    · obtain ⟨bj, _, e1, e2, _⟩ := hr.loose hs hr' ha h1 h2
      rw [g2] at e2; cases e2
      exact ⟨b, o, bi, h1, e1, rfl⟩
  · rw [hn', ← hn]; exact ha.nx
  · intro b hb; exact ha.old b (by rw [hn]; exact hb)
  · rw [hg', ← hg]; exact ha.gl

/-! ### new blocks -/
theorem OR.cells {vs vs' : List Value} (hv : VRL ι vs vs') (elem : TypeId) (n : Nat) : OR ι ⟨n, vs'.length, 1⟩ (.cells vs elem false) (.cells vs'.toArray elem) := by
  simp only [OR]
  have hl := hv.length
  refine ⟨trivial, trivial, by simp, by simp; omega, fun _ => by simpa using hl, ?_⟩
  rw [List.take_of_length_le (by omega)]
  exact hv

theorem NK.rel {nk : NK} {b : Nat} {bi : BI} (h : ι b = some bi) : VR ι (nk.mk b) (nk.mk bi.blk) := by
  cases nk with
  | ptr => exact .ptr h
  | sl l c => exact .sl h
  | mp => exact .map h

theorem newOf_ro {h : Heap} {e : Env} {o : Oper} {nk : NK} {ao : AO} (hs : newOf P o h e = some (nk, ao)) : roA ao = false := by
  unfold newOf at hs
  split at hs
  all_goals (repeat' split at hs)
  all_goals first | (cases hs; rfl) | cases hs

theorem newOf_sound {h : Heap} {w : World} {e : Env} {a : Act} (hr : HR ι h w.heap) (he : EnvR ι e a.tmps) {o : Oper} {nk : NK} {ao : AO} (hs : newOf P o h e = some (nk, ao)) :
    ∃ (o' : Obj) (bi : BI), (execOp a.eval o).run P w = .ok (.value (nk.mk w.heap.size)) { w with heap := w.heap.push o' } ∧ bi.blk = w.heap.size ∧ OR ι bi ao o' := by
  obtain ⟨dst, op, ty, pos, after, guard⟩ := o
  unfold newOf at hs
  cases op with
  | alloc t =>
    simp only at hs
    split at hs
    · rename_i z hz
      cases hs
      obtain ⟨hf, hrun⟩ := zeroOf_eq hz
      refine ⟨_, ⟨w.heap.size, z.cells.toList.length, 1⟩, ?_, rfl, OR.cells (VR.cells (VR.of_flat ι hf)) t _⟩
      simp only [execOp, Instr.alloc, Sem.run_bind, hrun, Result.andThen_ok]
      simp [Instr.box, newVar, newRow, NK.mk]
    · cases hs
  | box t x =>
    simp only at hs
    split at hs
    · rename_i v hv
      cases hs
      refine ⟨_, ⟨w.heap.size, (a.eval x).cells.toList.length, 1⟩, ?_, rfl, OR.cells (VR.cells (opv_sound hr he hv)) t _⟩
      simp [execOp, Instr.box, newVar, newRow, NK.mk]
    · cases hs
  | buildSlice t n ps =>
    simp only at hs
    split at hs
    · rename_i l hl
      split at hs
      · rename_i cs el hb
        cases hs
        obtain ⟨l', e1, e2⟩ := bsCells_sound (P := P) (ps' := ps.map fun p => (p.1, a.eval p.2)) (by simpa using opvs_sound hr he hl) hb
        refine ⟨_, ⟨w.heap.size, l'.length, 1⟩, ?_, rfl, OR.cells e1 el _⟩
        simp only [execOp, Sem.run_bind, e2 w, Result.andThen_ok, Sem.run_pure]
        rfl
      · cases hs
    · cases hs
  | makeSlice t l c =>
    simp only at hs
    split at hs
    · rename_i l1 c1 hl hc
      split at hs
      · rename_i vs el n m hb
        cases hs
        obtain ⟨e1, e2⟩ := msCells_sound (P := P) (opv_sound (a := a) hr he hl) (opv_sound (a := a) hr he hc) hb
        refine ⟨_, ⟨w.heap.size, vs.length, 1⟩, ?_, rfl, OR.cells (VRL.of_flat ι e1) el _⟩
        simp only [execOp, Sem.run_bind, e2 w, Result.andThen_ok, Sem.run_pure]
        rfl
      · cases hs
    · cases hs
  | makeMap t r =>
    cases r with
    | none =>
      cases hs
      refine ⟨.map #[] 0, ⟨w.heap.size, 0, 0⟩, ?_, rfl, ?_⟩
      · simp [execOp, Instr.makeMap, NK.mk]
      · simp only [OR]; exact ⟨trivial, .nil⟩
    | some x => simp only at hs; cases hs
  | _ => simp only at hs; cases hs

end Go.Dx
