/- DxL: operations of the abstract run, part 9: keys of maps. -/
import Derived.Test.YtcjmpdpgfmjcgaaGreatDoorDxK
namespace Go.Dx
variable {P : Program}

/-- The shape of a key's type: a plain one, or a struct of plain ones (each with its place among the cells). -/
inductive KS where
  | basic (d : TypeDesc)
  | struct (l : List (TypeDesc × Nat))

def plainT : TypeDesc → Bool
  | .int _ | .string | .bool => true
  | _ => false

noncomputable def kfields (P : Program) (l : List Field) : Option (List (TypeDesc × Nat)) :=
  @List.rec Field (fun _ => Option (List (TypeDesc × Nat))) (some [])
    (fun f _ ih => match P.underlying f.type, ih with
      | some d, some r => if f.name ≠ "_" && plainT d then some ((d, f.offset) :: r) else none
      | _, _ => none) l
noncomputable def kshape (P : Program) (t : TypeId) : Option KS :=
  match P.underlying t with
  | some (.struct fields) => if P.stoodInHeld t then none else match kfields P fields.toList with | some l => some (.struct l) | none => none
  | some d => if plainT d then some (.basic d) else none
  | none => none

noncomputable def eqFs (l : List (TypeDesc × Nat)) (xs ys : List Value) : Option Bool :=
  @List.rec (TypeDesc × Nat) (fun _ => Option Bool) (some true)
    (fun p _ ih => match nth xs p.2, nth ys p.2 with
      | some x, some y => match Instr.sameNow p.1 x y with
        | some true => ih
        | some false => some false
        | none => none
      | _, _ => none) l
noncomputable def eqK (ks : KS) (x y : Value) : Option Bool :=
  match ks with
  | .basic d => Instr.sameNow d x y
  | .struct l => match x, y with
    | .agg ⟨xs⟩, .agg ⟨ys⟩ => eqFs l xs ys
    | _, _ => none
noncomputable def okFs (l : List (TypeDesc × Nat)) (xs : List Value) : Bool := l.all fun p => Nat.blt p.2 xs.length
noncomputable def okK (ks : KS) (x : Value) : Bool :=
  match ks with
  | .basic _ => true
  | .struct l => match x with
    | .agg ⟨xs⟩ => okFs l xs
    | _ => false

theorem plain_row {d : TypeDesc} (h : plainT d = true) : rowish d = false := by cases d <;> first | rfl | (simp [plainT] at h)

theorem run_part {t : TypeId} {d : TypeDesc} (hu : P.underlying t = some d) (hd : rowish d = false) {cs : Array Value} {o : Nat} {v : Value} (hv : cs[o]? = some v) (w : World) : (part t cs o).run P w = .ok v w := by
  simp [part, run_isAgg hu, hd, hv]

theorem run_equalIn_plain {t : TypeId} {d : TypeDesc} (hu : P.underlying t = some d) {x y : Value} {b : Bool} (h : Instr.sameNow d x y = some b) (n : Nat) (w : World) : (Op.equalIn (n + 1) t x y).run P w = .ok b w := by
  unfold Instr.sameNow at h
  split at h
  · split at h
    · rename_i hk
      cases h
      simp only [Op.equalIn, Sem.run_bind, run_underlying hu, Result.andThen_ok, hk, if_true, Sem.run_pure]
    · cases h
  · cases h; simp only [Op.equalIn, Sem.run_bind, run_underlying hu, Result.andThen_ok, Sem.run_pure]
  · cases h; simp only [Op.equalIn, Sem.run_bind, run_underlying hu, Result.andThen_ok, Sem.run_pure]
  · cases h

theorem eqFs_cons (p : TypeDesc × Nat) (l : List (TypeDesc × Nat)) (xs ys : List Value) : eqFs (p :: l) xs ys = match nth xs p.2, nth ys p.2 with
      | some x, some y => match Instr.sameNow p.1 x y with
        | some true => eqFs l xs ys
        | some false => some false
        | none => none
      | _, _ => none := rfl
theorem kfields_cons (f : Field) (l : List Field) : kfields P (f :: l) = match P.underlying f.type, kfields P l with
      | some d, some r => if f.name ≠ "_" && plainT d then some ((d, f.offset) :: r) else none
      | _, _ => none := rfl

theorem run_eqFields (n : Nat) (xs ys : Array Value) (w : World) : ∀ (fs : List Field) (l : List (TypeDesc × Nat)) (b : Bool), kfields P fs = some l → eqFs l xs.toList ys.toList = some b →
    (Sem.run P (forIn fs ((none : Option Bool), ()) fun f _ =>
            if f.name ≠ "_" then do
              let a ← part f.type xs f.offset
              let c ← part f.type ys f.offset
              let q ← Op.equalIn (n + 1) f.type a c
              if (!q) = true then pure (ForInStep.done (some false, ())) else pure (ForInStep.yield (none, ()))
            else pure (ForInStep.yield (none, ()))) w) = .ok (if b then none else some false, ()) w := by
  intro fs
  induction fs with
  | nil =>
    intro l b hk he
    cases hk
    cases he
    simp
  | cons f fs ih =>
    intro l b hk he
    rw [kfields_cons] at hk
    split at hk
    · rename_i d r hd hr
      split at hk
      · rename_i hc
        cases hk
        simp only [Bool.and_eq_true, decide_eq_true_eq] at hc
        rw [eqFs_cons] at he
        split at he
        · rename_i x y hx hy
          simp only [nth_eq] at hx hy
          have hx' : xs[f.offset]? = some x := by simpa using hx
          have hy' : ys[f.offset]? = some y := by simpa using hy
          simp only [List.forIn_cons, Sem.run_bind, if_pos hc.1, run_part hd (plain_row hc.2) hx', run_part hd (plain_row hc.2) hy', Result.andThen_ok]
          split at he
          · rename_i hs
            simp only [run_equalIn_plain hd hs, Result.andThen_ok, Bool.not_true, Bool.false_eq_true, if_false, Sem.run_pure]
            exact ih r b hr he
          · rename_i hs
            cases he
            simp only [run_equalIn_plain hd hs, Result.andThen_ok, Bool.not_false, if_true, Sem.run_pure]
            rfl
          · cases he
        · cases he
      · cases hk
    · cases hk

theorem eqK_sound {t : TypeId} {ks : KS} (hk : kshape P t = some ks) {x y : Value} {b : Bool} (h : eqK ks x y = some b) (w : World) : (Op.equal t x y).run P w = .ok b w := by
  unfold kshape at hk
  split at hk
  · rename_i fields hu
    split at hk
    · cases hk
    · rename_i hst
      split at hk
      · rename_i l hl
        cases hk
        unfold eqK at h
        simp only at h
        split at h
        · rename_i xs ys
          have := run_eqFields (P := P) 9998 ⟨xs⟩ ⟨ys⟩ w fields.toList l b hl h
          unfold Op.equal Op.maxDepth
          rw [Op.equalIn]
          simp only [Sem.run_bind, run_underlying hu, Result.andThen_ok, run_program, hst, Bool.false_eq_true, if_false]
          rw [← Array.forIn_toList]
          rw [this]
          cases b <;> simp
        · cases h
      · cases hk
  · rename_i d hns hu
    split at hk
    · cases hk
      exact run_equalIn_plain hu h 9999 w
    · cases hk
  · cases hk

theorem run_checkPlain {t : TypeId} {d : TypeDesc} (hu : P.underlying t = some d) (hp : plainT d = true) (e : Bool) (n : Nat) (x : Value) (w : World) : (Instr.checkKey e (n + 1) t x).run P w = .ok () w := by
  cases d <;> first | (simp [plainT] at hp; done) | (simp only [Instr.checkKey, Sem.run_bind, run_underlying hu, Result.andThen_ok, Sem.run_pure])

theorem run_checkFields (e : Bool) (n : Nat) (xs : Array Value) (w : World) : ∀ (fs : List Field) (l : List (TypeDesc × Nat)), kfields P fs = some l → okFs l xs.toList = true →
    (Sem.run P (forIn fs PUnit.unit fun f _ =>
            if f.name ≠ "_" then do
              let a ← part f.type xs f.offset
              Instr.checkKey e (n + 1) f.type a
              pure (ForInStep.yield PUnit.unit)
            else pure (ForInStep.yield PUnit.unit)) w) = .ok PUnit.unit w := by
  intro fs
  induction fs with
  | nil => intro l hk he; simp
  | cons f fs ih =>
    intro l hk he
    rw [kfields_cons] at hk
    split at hk
    · rename_i d r hd hr
      split at hk
      · rename_i hc
        cases hk
        simp only [Bool.and_eq_true, decide_eq_true_eq] at hc
        simp only [okFs, List.all_cons, Bool.and_eq_true] at he
        have hlt : f.offset < xs.toList.length := Nat.le_of_ble_eq_true he.1
        have hx' : xs[f.offset]? = some (xs.toList[f.offset]) := by rw [← Array.getElem?_toList]; exact List.getElem?_eq_getElem hlt
        simp only [List.forIn_cons, Sem.run_bind, if_pos hc.1, run_part hd (plain_row hc.2) hx', Result.andThen_ok, run_checkPlain hd hc.2, Sem.run_pure]
        exact ih r hr he.2
      · cases hk
    · cases hk

theorem okK_sound {t : TypeId} {ks : KS} (hk : kshape P t = some ks) {x : Value} (h : okK ks x = true) (e : Bool) (w : World) : (Instr.checkKey e 10000 t x).run P w = .ok () w := by
  unfold kshape at hk
  split at hk
  · rename_i fields hu
    split at hk
    · cases hk
    · split at hk
      · rename_i l hl
        cases hk
        unfold okK at h
        simp only at h
        split at h
        · rename_i xs
          have := run_checkFields (P := P) e 9998 ⟨xs⟩ w fields.toList l hl h
          rw [Instr.checkKey]
          simp only [Sem.run_bind, run_underlying hu, Result.andThen_ok]
          rw [← Array.forIn_toList, this]
          simp
        · cases h
      · cases hk
  · rename_i d hns hu
    split at hk
    · rename_i hp
      cases hk
      exact run_checkPlain hu hp e 9999 x w
    · cases hk
  · cases hk

/-- The place of the entry with a key. -/
noncomputable def fk (ks : KS) (k : Value) (es : List MapEntry) : Nat → Option (Option Nat) :=
  @List.rec MapEntry (fun _ => Nat → Option (Option Nat)) (fun _ => some none)
    (fun e _ ih i => match eqK ks k e.key with
      | some true => some (some i)
      | some false => ih (Nat.succ i)
      | none => none) es
theorem fk_cons (ks : KS) (k : Value) (e : MapEntry) (es : List MapEntry) (i : Nat) : fk ks k (e :: es) i = match eqK ks k e.key with
      | some true => some (some i)
      | some false => fk ks k es (i + 1)
      | none => none := rfl

theorem run_findAsking {ι : Iota} {t : TypeId} {ks : KS} (hk : kshape P t = some ks) (k : Value) (w : World) : ∀ (es es' : List MapEntry) (i : Nat) (r : Option Nat), MER ι es es' → fk ks k es i = some r →
    (Instr.findAsking t k es' i).run P w = .ok (match r with | none => none | some j => (es'[j - i]?).map fun e => (j, e.val)) w ∧ (∀ j, r = some j → i ≤ j ∧ j - i < es.length) := by
  intro es
  induction es with
  | nil =>
    intro es' i r hm hf
    cases hm; cases hf
    simp [Instr.findAsking]
  | cons e es ih =>
    intro es' i r hm hf
    cases hm with
    | cons hkey hval hborn hm =>
      rename_i e' l'
      rw [fk_cons] at hf
      split at hf
      · rename_i he
        cases hf
        rw [← hkey] at he
        simp only [Instr.findAsking, Sem.run_bind, eqK_sound hk he, Result.andThen_ok, if_true, Sem.run_pure]
        simp
      · rename_i he
        rw [← hkey] at he
        obtain ⟨h1, h2⟩ := ih l' (i + 1) r hm hf
        simp only [Instr.findAsking, Sem.run_bind, eqK_sound hk he, Result.andThen_ok, Bool.false_eq_true, if_false, h1]
        refine ⟨?_, fun j hj => ?_⟩
        · cases r with
          | none => rfl
          | some j =>
            have := h2 j rfl
            simp only
            congr 2
            rw [show j - i = (j - (i + 1)) + 1 by omega, List.getElem?_cons_succ]
        · have := h2 j hj; simp only [List.length_cons]; omega
      · cases hf

theorem findNow_of_fk {ι : Iota} {d : TypeDesc} (k : Value) : ∀ (es es' : List MapEntry) (i : Nat) (r : Option Nat), MER ι es es' → fk (.basic d) k es i = some r →
    Instr.findNow d k es' i = some (match r with | none => none | some j => (es'[j - i]?).map fun e => (j, e.val)) ∧ (∀ j, r = some j → i ≤ j ∧ j - i < es.length) := by
  intro es
  induction es with
  | nil => intro es' i r hm hf; cases hm; cases hf; simp [Instr.findNow]
  | cons e es ih =>
    intro es' i r hm hf
    cases hm with
    | cons hkey hval hborn hm =>
      rename_i e' l'
      rw [fk_cons] at hf
      simp only [eqK] at hf
      split at hf
      · rename_i he
        cases hf
        rw [← hkey] at he
        simp only [Instr.findNow, he]
        simp
      · rename_i he
        rw [← hkey] at he
        obtain ⟨h1, h2⟩ := ih l' (i + 1) r hm hf
        simp only [Instr.findNow, he, h1]
        refine ⟨?_, fun j hj => ?_⟩
        · cases r with
          | none => rfl
          | some j =>
            have := h2 j rfl
            simp only
            congr 2
            rw [show j - i = (j - (i + 1)) + 1 by omega, List.getElem?_cons_succ]
        · have := h2 j hj; simp only [List.length_cons]; omega
      · cases hf

def fres (es : List MapEntry) : Option Nat → Option (Nat × Value)
  | none => none
  | some j => (es[j]?).map fun e => (j, e.val)

theorem run_findKey {ι : Iota} {t : TypeId} {ks : KS} (hk : kshape P t = some ks) {k : Value} {es es' : List MapEntry} {r : Option Nat} (hm : MER ι es es') (hf : fk ks k es 0 = some r) (w : World) :
    (Instr.findKey t k es').run P w = .ok (fres es' r) w ∧ (∀ j, r = some j → j < es.length) := by
  have hask := run_findAsking (P := P) hk k w es es' 0 r hm hf
  refine ⟨?_, fun j hj => by have := hask.2 j hj; omega⟩
  have hk0 := hk
  unfold kshape at hk
  split at hk
  · rename_i fields hu
    split at hk
    · cases hk
    · split at hk
      · cases hk
        simp only [Instr.findKey, Sem.run_bind, run_underlying hu, Result.andThen_ok]
        cases hm with
        | nil => cases hf; simp [Instr.findNow, fres]
        | cons a b c d =>
          rename_i e e' l l'
          have : Instr.findNow (.struct fields) k (e' :: l') 0 = none := by
            simp only [Instr.findNow]
            have : Instr.sameNow (.struct fields) k e'.key = none := by unfold Instr.sameNow; split <;> simp_all
            rw [this]
          simp only [this]
          rw [hask.1]
          cases r <;> rfl
      · cases hk
  · rename_i d hns hu
    split at hk
    · cases hk
      have := (findNow_of_fk (d := d) k es es' 0 r hm hf).1
      simp only [Instr.findKey, Sem.run_bind, run_underlying hu, Result.andThen_ok, this, Sem.run_pure]
      cases r <;> rfl
    · cases hk
  · cases hk

end Go.Dx
