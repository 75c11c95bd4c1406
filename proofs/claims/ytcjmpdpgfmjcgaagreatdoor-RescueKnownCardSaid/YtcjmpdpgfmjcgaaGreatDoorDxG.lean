/- DxG: operations of the abstract run, part 4: literals, make, slices of slices, interfaces. -/
import Derived.Test.YtcjmpdpgfmjcgaaGreatDoorDxF
namespace Go.Dx
variable {P : Program}

/-! ### literals -/
inductive PR (ι : Iota) : List (Nat × Value) → List (Nat × Value) → Prop where
  | nil : PR ι [] []
  | cons {i : Nat} {v v' : Value} {l l' : List (Nat × Value)} : VR ι v v' → PR ι l l' → PR ι ((i, v) :: l) ((i, v') :: l')

theorem foldSet_rel {ι : Iota} (off : Nat) : ∀ (l l' : List Value) (k : Nat) (cs cs' : Array Value), VRL ι l l' → VRL ι cs.toList cs'.toList →
    VRL ι ((l.zipIdx k).foldl (fun (cs : Array Value) (p : Value × Nat) => cs.setIfInBounds (off + p.2) p.1) cs).toList
      ((l'.zipIdx k).foldl (fun (cs : Array Value) (p : Value × Nat) => cs.setIfInBounds (off + p.2) p.1) cs').toList := by
  intro l
  induction l with
  | nil => intro l' k cs cs' hl hc; cases hl; exact hc
  | cons x l ih =>
    intro l' k cs cs' hl hc
    cases hl with
    | cons h t =>
      simp only [List.zipIdx_cons, List.foldl_cons]
      refine ih _ _ _ _ t ?_
      simp only [Array.toList_setIfInBounds]
      exact hc.set h _

theorem fill_rel {ι : Iota} (place : Nat → Option (Nat × Nat)) : ∀ (ps ps' : List (Nat × Value)) (cs cs' r : Array Value), PR ι ps ps' → VRL ι cs.toList cs'.toList → Instr.fill place cs ps = some r →
    ∃ r', Instr.fill place cs' ps' = some r' ∧ VRL ι r.toList r'.toList := by
  intro ps
  induction ps with
  | nil => intro ps' cs cs' r hp hc hf; cases hp; simp only [Instr.fill, Option.some.injEq] at hf; subst hf; exact ⟨cs', rfl, hc⟩
  | cons p ps ih =>
    intro ps' cs cs' r hp hc hf
    cases hp with
    | cons hv ht =>
      rename_i i v v' l'
      simp only [Instr.fill] at hf ⊢
      cases hpl : place i with
      | none => rw [hpl] at hf; cases hf
      | some os =>
        obtain ⟨off, size⟩ := os
        rw [hpl] at hf
        simp only at hf ⊢
        have hcl := hv.cells.length
        simp only [Array.length_toList] at hcl
        have hcs := hc.length
        simp only [Array.length_toList] at hcs
        rw [← hcl, ← hcs]
        split at hf
        · cases hf
        · rename_i hcond
          rw [if_neg hcond]
          refine ih _ _ _ _ ht ?_ hf
          rw [← Array.foldl_toList, ← Array.foldl_toList, Array.toList_zipIdx, Array.toList_zipIdx]
          exact foldSet_rel off _ _ 0 _ _ hv.cells hc

noncomputable def opvs (h : Heap) (e : Env) (l : List (Nat × Operand)) : Option (List (Nat × Value)) :=
  @List.rec (Nat × Operand) (fun _ => Option (List (Nat × Value))) (some []) (fun p _ ih => match opv h e p.2, ih with | some v, some r => some ((p.1, v) :: r) | _, _ => none) l
theorem opvs_sound {ι : Iota} {h : Heap} {hp : Array Obj} {e : Env} {a : Act} (hr : HR ι h hp) (he : EnvR ι e a.tmps) : ∀ {l : List (Nat × Operand)} {r : List (Nat × Value)}, opvs h e l = some r →
    PR ι r (l.map fun p => (p.1, a.eval p.2)) := by
  intro l
  induction l with
  | nil => intro r hs; cases hs; exact .nil
  | cons p l ih =>
    intro r hs
    change (match opv h e p.2, opvs h e l with | some v, some r => some ((p.1, v) :: r) | _, _ => none) = some r at hs
    split at hs
    · rename_i v r' h1 h2
      cases hs
      exact .cons (opv_sound hr he h1) (ih h2)
    · cases hs

noncomputable def places (P : Program) (fields : List Field) : Option (List (Nat × Nat)) :=
  @List.rec Field (fun _ => Option (List (Nat × Nat))) (some []) (fun f _ ih => match tsz P f.type, ih with | some n, some r => some ((f.offset, n) :: r) | _, _ => none) fields
theorem run_places {fields : List Field} {r : List (Nat × Nat)} (h : places P fields = some r) (w : World) :
    (fields.mapM (m := Sem) fun f => do pure (f.offset, ← sizeOf f.type)).run P w = .ok r w := by
  induction fields generalizing r with
  | nil => cases h; simp
  | cons f l ih =>
    change (match tsz P f.type, places P l with | some n, some r => some ((f.offset, n) :: r) | _, _ => none) = some r at h
    split at h
    · rename_i n r' h1 h2
      cases h
      simp only [List.mapM_cons, Sem.run_bind, run_sizeOf h1, Result.andThen_ok, Sem.run_pure, ih h2]
    · cases h
theorem run_placesA {fields : Array Field} {r : List (Nat × Nat)} (h : places P fields.toList = some r) (w : World) :
    (fields.mapM (m := Sem) fun f => do pure (f.offset, ← sizeOf f.type)).run P w = .ok r.toArray w := by
  have := run_places h w
  rw [Array.mapM_eq_mapM_toList]
  simp only [Sem.run_map, this, Result.andThen_ok]

noncomputable def abuild (P : Program) (t : TypeId) (parts : List (Nat × Value)) : Option Value :=
  match zeroOf P t with
  | some z =>
    match P.underlying t with
    | some (.struct fields) =>
      match places P fields.toList with
      | some pl => match Instr.fill (pl.toArray[·]?) z.cells parts with | some cs => some (.agg cs) | none => none
      | none => none
    | some (.array _ elem) =>
      match tsz P elem with
      | some n => match Instr.fill (fun i => some (i * n, n)) z.cells parts with | some cs => some (.agg cs) | none => none
      | none => none
    | _ => none
  | none => none
theorem abuild_sound {ι : Iota} {t : TypeId} {ps : List (Nat × Value)} {ps' : Array (Nat × Value)} {v : Value} (hp : PR ι ps ps'.toList) (hs : abuild P t ps = some v) (w : World) :
    ∃ v', (Instr.build t ps').run P w = .ok v' w ∧ VR ι v v' := by
  unfold abuild at hs
  split at hs
  · rename_i z hz
    obtain ⟨hf, hzr⟩ := zeroOf_eq hz
    have hzc : VRL ι z.cells.toList z.cells.toList := (VR.of_flat ι hf).cells
    split at hs
    · rename_i fields hu
      split at hs
      · rename_i pl hpl
        split at hs
        · rename_i cs hcs
          cases hs
          obtain ⟨r', h1, h2⟩ := fill_rel _ _ _ _ _ _ hp hzc hcs
          refine ⟨.agg r', ?_, .agg h2⟩
          simp only [Instr.build, Sem.run_bind, hzr, Result.andThen_ok, run_underlying hu, run_placesA hpl, h1, Sem.run_pure]
        · cases hs
      · cases hs
    · rename_i len elem hu
      split at hs
      · rename_i n hn
        split at hs
        · rename_i cs hcs
          cases hs
          obtain ⟨r', h1, h2⟩ := fill_rel _ _ _ _ _ _ hp hzc hcs
          refine ⟨.agg r', ?_, .agg h2⟩
          simp only [Instr.build, Sem.run_bind, hzr, Result.andThen_ok, run_underlying hu, run_sizeOf hn, h1, Sem.run_pure]
        · cases hs
      · cases hs
    · cases hs
  · cases hs

/-! ### rows of zeros -/
noncomputable def rep (n : Nat) (z : List Value) : List Value := @Nat.rec (fun _ => List Value) [] (fun _ ih => z ++ ih) n
theorem rep_zero (z : List Value) : rep 0 z = [] := rfl
theorem rep_succ (n : Nat) (z : List Value) : rep (n + 1) z = z ++ rep n z := rfl
theorem rep_length (n : Nat) (z : List Value) : (rep n z).length = n * z.length := by
  induction n with
  | zero => simp [rep_zero]
  | succ n ih => rw [rep_succ, List.length_append, ih, Nat.succ_mul]; omega
theorem rep_get (z : List Value) : ∀ (n i : Nat), i < n * z.length → (rep n z)[i]? = z[i % z.length]? := by
  intro n
  induction n with
  | zero => intro i hi; simp at hi
  | succ n ih =>
    intro i hi
    rw [rep_succ, List.getElem?_append]
    by_cases h : i < z.length
    · rw [if_pos h, Nat.mod_eq_of_lt h]
    · have h1 : i - z.length < n * z.length := by rw [Nat.add_mul, Nat.one_mul] at hi; omega
      rw [if_neg h, ih (i - z.length) h1]
      rw [Nat.mod_eq_sub_mod (a := i) (b := z.length) (by omega)]
theorem rep_eq (n : Nat) (z : Array Value) (hz : 0 < z.size) : ((Array.range (n * z.size)).map (fun i => z[i % z.size]!)) = (rep n z.toList).toArray := by
  apply Array.ext_getElem?
  intro i
  simp only [Array.getElem?_map, List.getElem?_toArray]
  by_cases h : i < n * z.size
  · rw [rep_get z.toList n i (by simpa using h)]
    have hm : i % z.size < z.size := Nat.mod_lt _ hz
    simp [h, hm, getElem!_pos]
  · have h1 : (rep n z.toList)[i]? = none := List.getElem?_eq_none (by rw [rep_length]; simp; omega)
    rw [h1]
    simp [h]
theorem flatL_append : ∀ (l m : List Value), flatL (l ++ m) = (flatL l && flatL m)
  | [], m => by simp [flatL]
  | v :: l, m => by simp [flatL, flatL_append l m, Bool.and_assoc]
theorem flatL_rep (n : Nat) (z : List Value) (h : flatL z = true) : flatL (rep n z) = true := by
  induction n with
  | zero => rfl
  | succ n ih => rw [rep_succ, flatL_append, h, ih]; rfl
theorem flat_cells {v : Value} (h : flat v = true) : flatL v.cells.toList = true := by
  cases v with
  | agg a => cases a; simpa [Value.cells, flat] using h
  | _ => simp [Value.cells, flatL, h]

end Go.Dx
