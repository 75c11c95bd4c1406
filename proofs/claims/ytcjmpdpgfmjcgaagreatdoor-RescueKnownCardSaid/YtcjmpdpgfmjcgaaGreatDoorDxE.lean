/- DxE: operations of the abstract run, part 2: stores, new variables, structs, slices. -/
import Derived.Test.YtcjmpdpgfmjcgaaGreatDoorDxD
namespace Go.Dx
variable {P : Program}

theorem setRow_heap {w : World} {g : Nat} {cur : Array Value} {t : TypeId} (hg : w.heap[g]? = some (.cells cur t (0, 0))) (c : Array Value) :
    (w.setRow g c).heap = w.heap.setIfInBounds g (.cells c t (0, 0)) := by
  have hlt := (Array.getElem?_eq_some_iff.1 hg).1
  have hge : w.heap[g] = .cells cur t (0, 0) := (Array.getElem?_eq_some_iff.1 hg).2
  unfold World.setRow
  apply Array.ext
  · simp
  · intro i h1 h2
    have h1' : i < w.heap.size := by simpa using h1
    rw [Array.getElem_modify, Array.getElem_setIfInBounds h1']
    by_cases e : g = i
    · subst e; simp [hge]
    · simp [e]

noncomputable def allOne (l : List Value) : Bool := l.all (·.oneCell')

/-- The row vs with the cells l from o on; none if they do not all fit. -/
noncomputable def lay0 (l : List Value) : List Value → Option (List Value) :=
  @List.rec Value (fun _ => List Value → Option (List Value)) (fun vs => some vs)
    (fun x _ ih vs => @List.rec Value (fun _ => Option (List Value)) none (fun _ vs _ => @Option.rec (List Value) (fun _ => Option (List Value)) none (fun r => some (x :: r)) (ih vs)) vs) l
noncomputable def layG (l : List Value) (vs : List Value) : Nat → Option (List Value) :=
  @List.rec Value (fun _ => Nat → Option (List Value)) (fun o => @Bool.rec (fun _ => Option (List Value)) none (lay0 l []) (Nat.beq o 0))
    (fun v vs ih o => @Bool.rec (fun _ => Option (List Value)) (@Option.rec (List Value) (fun _ => Option (List Value)) none (fun r => some (v :: r)) (ih (Nat.pred o))) (lay0 l (v :: vs)) (Nat.beq o 0)) vs
noncomputable def lay (vs : List Value) (o : Nat) (l : List Value) : Option (List Value) := layG l vs o
theorem lay0_eq : ∀ (l vs : List Value) {r : List Value}, lay0 l vs = some r → l.length ≤ vs.length ∧ r = l ++ vs.drop l.length := by
  intro l
  induction l with
  | nil => intro vs r h; cases h; exact ⟨Nat.zero_le _, rfl⟩
  | cons x l ih =>
    intro vs r h
    cases vs with
    | nil => cases h
    | cons v vs =>
      change @Option.rec (List Value) (fun _ => Option (List Value)) none (fun r => some (x :: r)) (lay0 l vs) = some r at h
      cases hq : lay0 l vs with
      | none => rw [hq] at h; cases h
      | some q =>
        rw [hq] at h; cases h
        obtain ⟨h1, h2⟩ := ih vs hq
        exact ⟨by simpa using h1, by rw [h2]; rfl⟩
theorem layG_eq (l : List Value) : ∀ (vs : List Value) (o : Nat) {r : List Value}, layG l vs o = some r → o + l.length ≤ vs.length ∧ r = vs.take o ++ (l ++ vs.drop (o + l.length)) := by
  intro vs
  induction vs with
  | nil =>
    intro o r h
    change @Bool.rec (fun _ => Option (List Value)) none (lay0 l []) (Nat.beq o 0) = some r at h
    cases hb : Nat.beq o 0
    · rw [hb] at h; cases h
    · rw [hb] at h
      have := Nat.eq_of_beq_eq_true hb
      subst this
      obtain ⟨h1, h2⟩ := lay0_eq l [] h
      exact ⟨by simpa using h1, by rw [h2]; simp⟩
  | cons v vs ih =>
    intro o r h
    change @Bool.rec (fun _ => Option (List Value)) (@Option.rec (List Value) (fun _ => Option (List Value)) none (fun r => some (v :: r)) (layG l vs (Nat.pred o))) (lay0 l (v :: vs)) (Nat.beq o 0) = some r at h
    cases hb : Nat.beq o 0
    · rw [hb] at h
      have ho : o ≠ 0 := fun e => by rw [e] at hb; cases hb
      obtain ⟨m, rfl⟩ : ∃ m, o = m + 1 := ⟨o - 1, by omega⟩
      simp only [Nat.pred_succ] at h
      cases hq : layG l vs m with
      | none => rw [hq] at h; cases h
      | some q =>
        rw [hq] at h; cases h
        obtain ⟨h1, h2⟩ := ih m hq
        refine ⟨by simp; omega, ?_⟩
        rw [h2, show m + 1 + l.length = (m + l.length) + 1 by omega]
        simp
    · rw [hb] at h
      have := Nat.eq_of_beq_eq_true hb
      subst this
      obtain ⟨h1, h2⟩ := lay0_eq l (v :: vs) h
      exact ⟨by simpa using h1, by rw [h2]; simp⟩
theorem lay_eq {vs : List Value} {o : Nat} {l r : List Value} (h : lay vs o l = some r) : o + l.length ≤ vs.length ∧ r = vs.take o ++ (l ++ vs.drop (o + l.length)) := layG_eq l vs o h

theorem setRow_world {w : World} {g : Nat} {cur : Array Value} {t : TypeId} (hg : w.heap[g]? = some (.cells cur t (0, 0))) (c : Array Value) :
    w.setRow g c = { w with heap := w.heap.setIfInBounds g (.cells c t) } := by
  show ({ w with heap := (w.setRow g c).heap } : World) = _
  rw [setRow_heap hg]

theorem VR.one {ι : Iota} {v v' : Value} (h : VR ι v v') : v'.oneCell' = v.oneCell' := by cases h <;> rfl
theorem VRL.allOne {ι : Iota} {l l' : List Value} (h : VRL ι l l') (ha : allOne l = true) : ∀ v ∈ l', v.oneCell' = true := by
  induction l generalizing l' with
  | nil => cases h; simp
  | cons x l ih =>
    cases h with
    | cons h t =>
      simp only [Dx.allOne, List.all_cons, Bool.and_eq_true] at ha
      intro v hv
      cases hv with
      | head => rw [h.one]; exact ha.1
      | tail _ hv => exact ih t ha.2 v hv

/-- Cells written into a block's row, in both heaps. -/
theorem HR.lay {ι : Iota} {h : Heap} {w : World} (hr : HR ι h w.heap) {b o : Nat} {bi : BI} {vs l l' r : List Value} {elem : TypeId} {op : Bool} (hg : h.get b = some (.cells vs elem op)) (hi : ι b = some bi)
    (hl : VRL ι l l') (ha : allOne l = true) (hlay : lay vs o l = some r) :
    ∃ w', (storeCells ⟨bi.blk, o, none⟩ l').run P w = .ok () w' ∧ HR ι (h.set b (.cells r elem op)) w'.heap ∧ Adv ι h w ι (h.set b (.cells r elem op)) w' := by
  obtain ⟨c, hc, hcn, hle, hop, hvs⟩ := hr.cellsAt hg hi
  obtain ⟨hfit, rfl⟩ := lay_eq hlay
  have hlen := hl.length
  have hrun := run_storeCells_at (P := P) bi.blk o elem l' 0 c w hc (by omega) (hl.allOne ha)
  refine ⟨_, hrun, ?_⟩
  rw [setRow_world hc]
  simp only [Nat.add_zero]
  refine hr.set hg hi ?_
  simp only [OR]
  have hrl : (vs.take o ++ (l ++ vs.drop (o + l.length))).length = vs.length := by simp; omega
  refine ⟨trivial, trivial, ?_, ?_, ?_, ?_⟩
  · simp; omega
  · simp; omega
  · intro h0; have := hop h0; simp; omega
  · rw [hrl]
    have e : ((c.toList.take o ++ l' ++ c.toList.drop (o + l'.length)).toArray.toList).take vs.length = (c.toList.take vs.length).take o ++ (l' ++ (c.toList.take vs.length).drop (o + l'.length)) := by
      have hA : (c.toList.take o ++ l').length = o + l'.length := by simp; omega
      rw [List.toList_toArray, List.take_append, List.take_of_length_le (by omega : (c.toList.take o ++ l').length ≤ vs.length), hA, List.drop_take, List.take_take,
        Nat.min_eq_left (by omega), List.append_assoc]
    rw [e, hlen]
    exact (hvs.take o).append (hl.append (hvs.drop _))

noncomputable def astore (P : Program) (t : TypeId) (p v : Value) (h : Heap) : Option Heap :=
  match p with
  | .pointer (some ⟨b, o, none⟩) =>
    match h.get b with
    | some (.cells vs elem op) =>
      match tsz P t with
      | some n =>
        @Bool.casesOn (fun _ => Option Heap) (Nat.beq v.cells.toList.length n) none
          (@Bool.casesOn (fun _ => Option Heap) (allOne v.cells.toList) none
            (match lay vs o v.cells.toList with
             | some r => some (h.set b (.cells r elem op))
             | none => none))
      | none => none
    | _ => none
  | _ => none

theorem astore_sound {ι : Iota} {h h' : Heap} {w : World} (hr : HR ι h w.heap) {t : TypeId} {p p' v v' : Value} (hp : VR ι p p') (hv : VR ι v v') (hs : astore P t p v h = some h') :
    ∃ w', (Instr.storeAt t p' v').run P w = .ok () w' ∧ HR ι h' w'.heap ∧ Adv ι h w ι h' w' := by
  unfold astore at hs
  split at hs
  · rename_i b o
    cases hp with
    | ptr hi =>
      rename_i bi
      split at hs
      · rename_i vs elem op hg
        split at hs
        · rename_i n hn
          cases hq : Nat.beq v.cells.toList.length n
          · rw [hq] at hs; cases hs
          · rw [hq] at hs
            cases ha : allOne v.cells.toList
            · rw [ha] at hs; cases hs
            · rw [ha] at hs
              simp only at hs
              split at hs
              · rename_i r hlay
                cases hs
                have hc := hv.cells
                obtain ⟨w', h1, h2, h3⟩ := hr.lay (P := P) hg hi hc ha hlay
                refine ⟨w', ?_, h2, h3⟩
                have hsz : v'.cells.size = n := by
                  have hq' : v'.cells.toList.length = n := by rw [← hc.length]; exact Nat.eq_of_beq_eq_true hq
                  rw [← hq']; exact Array.length_toList.symm
                simp only [Instr.storeAt, Instr.sureAddr, Sem.run_bind, Sem.run_pure, Result.andThen_ok, storeVar, run_sizeOf hn, hsz, ne_eq, not_true_eq_false, if_false]
                exact h1
              · cases hs
        · cases hs
      · cases hs
  · cases hs

/-- A new variable of one value's cells. -/
theorem HR.newCells {ι : Iota} {h : Heap} {w : World} (hr : HR ι h w.heap) {vs vs' : List Value} (hv : VRL ι vs vs') (elem : TypeId) :
    ∃ ι' bi, ι' h.nx = some bi ∧ bi.blk = w.heap.size ∧ HR ι' (h.add (.cells vs elem false)) (w.heap.push (.cells vs'.toArray elem)) ∧
      Adv ι h w ι' (h.add (.cells vs elem false)) { w with heap := w.heap.push (.cells vs'.toArray elem) } := by
  let bi : BI := ⟨w.heap.size, vs'.length, 1⟩
  have hs := hr.sub_upd bi
  have := hr.add (o := .cells vs elem false) (o' := .cells vs'.toArray elem) (bi := bi) rfl (by
    simp only [OR]
    have hl := hv.length
    refine ⟨trivial, trivial, by simp [bi], by simp; omega, fun _ => by simpa using hl, ?_⟩
    rw [List.take_of_length_le (by omega)]
    exact hv.mono hs)
  exact ⟨_, bi, upd_same _ _ _, rfl, this.1, this.2⟩

noncomputable def abox (t : TypeId) (v : Value) (h : Heap) : AR :=
  .ok (.pointer (some ⟨h.nx, 0, none⟩)) (h.add (.cells v.cells.toList t false))

theorem abox_sound {ι : Iota} {h h' : Heap} {w : World} (hr : HR ι h w.heap) {t : TypeId} {v v' r : Value} (hv : VR ι v v') (hs : abox t v h = .ok r h') :
    ∃ ι' r', (Instr.box t v').run P w = .ok r' { w with heap := w.heap.push (.cells v'.cells t) } ∧ VR ι' r r' ∧ HR ι' h' (w.heap.push (.cells v'.cells t)) ∧ Adv ι h w ι' h' { w with heap := w.heap.push (.cells v'.cells t) } := by
  unfold abox at hs
  simp only [AR.ok.injEq] at hs
  obtain ⟨rfl, rfl⟩ := hs
  obtain ⟨ι', bi, e1, e2, e3, e4⟩ := hr.newCells hv.cells t
  have ha : (v'.cells.toList.toArray) = v'.cells := by simp
  rw [ha] at e3 e4
  refine ⟨ι', .pointer (some ⟨w.heap.size, 0, none⟩), ?_, ?_, e3, e4⟩
  · simp [Instr.box, newVar, newRow]
  · have := VR.ptr (o := 0) e1; rw [e2] at this; exact this

noncomputable def zeroOf (P : Program) (t : TypeId) : Option Value :=
  match P.info? t with
  | some i => match i.zero with
    | some v => @Bool.casesOn (fun _ => Option Value) (flat v) none (some v)
    | none => none
  | none => none
theorem zeroOf_eq {t : TypeId} {v : Value} (h : zeroOf P t = some v) : flat v = true ∧ ∀ w, (zeroValue t).run P w = .ok v w := by
  unfold zeroOf at h
  split at h
  · rename_i i hi
    split at h
    · rename_i z hz
      cases hf : flat z
      · rw [hf] at h; cases h
      · rw [hf] at h; cases h
        refine ⟨hf, fun w => ?_⟩
        simp [zeroValue, typeInfo, hi, hz]
    · cases h
  · cases h

noncomputable def aalloc (P : Program) (t : TypeId) (h : Heap) : AR :=
  match zeroOf P t with
  | some z => abox t z h
  | none => .no
theorem aalloc_sound {ι : Iota} {h h' : Heap} {w : World} (hr : HR ι h w.heap) {t : TypeId} {r : Value} (hs : aalloc P t h = .ok r h') :
    ∃ ι' r' w', (Instr.alloc t true (.tuple #[])).run P w = .ok r' w' ∧ VR ι' r r' ∧ HR ι' h' w'.heap ∧ Adv ι h w ι' h' w' := by
  unfold aalloc at hs
  split at hs
  · rename_i z hz
    obtain ⟨hf, hrun⟩ := zeroOf_eq hz
    obtain ⟨ι', r', h1, h2, h3, h4⟩ := abox_sound (P := P) hr (VR.of_flat ι hf) hs
    refine ⟨ι', r', { w with heap := w.heap.push (.cells z.cells t) }, ?_, h2, h3, h4⟩
    simp only [Instr.alloc, Sem.run_bind, hrun, Result.andThen_ok]
    exact h1
  · cases hs

end Go.Dx
