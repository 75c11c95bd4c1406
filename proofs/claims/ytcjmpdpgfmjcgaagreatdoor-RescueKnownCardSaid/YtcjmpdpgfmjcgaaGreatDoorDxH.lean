/- DxH: operations of the abstract run, part 5: slices. -/
import Derived.Test.YtcjmpdpgfmjcgaaGreatDoorDxG
namespace Go.Dx
variable {P : Program}

/-- A new row of cells and a slice of all of it. -/
noncomputable def anew (vs : List Value) (elem : TypeId) (l c : Nat) (h : Heap) : AR :=
  .ok (.slice (some ⟨h.nx, 0, none⟩) l c) (h.add (.cells vs elem false))
theorem anew_sound {ι : Iota} {h h' : Heap} {w : World} (hr : HR ι h w.heap) {vs vs' : List Value} {elem : TypeId} {l c : Nat} {r : Value} (hv : VRL ι vs vs') (hs : anew vs elem l c h = .ok r h') :
    ∃ ι', VR ι' r (.slice (some ⟨w.heap.size, 0, none⟩) l c) ∧ HR ι' h' (w.heap.push (.cells vs'.toArray elem)) ∧ Adv ι h w ι' h' { w with heap := w.heap.push (.cells vs'.toArray elem) } := by
  unfold anew at hs
  simp only [AR.ok.injEq] at hs
  obtain ⟨rfl, rfl⟩ := hs
  obtain ⟨ι', bi, e1, e2, e3, e4⟩ := hr.newCells hv elem
  refine ⟨ι', ?_, e3, e4⟩
  have := VR.sl (o := 0) (l := l) (c := c) e1; rw [e2] at this; exact this

noncomputable def bsCells (P : Program) (t : TypeId) (len : Nat) (parts : List (Nat × Value)) : Option (List Value × TypeId) :=
  match P.underlying t with
  | some (.slice elem) =>
    match tsz P elem, zeroOf P elem with
    | some size, some z =>
      @Bool.casesOn (fun _ => Option (List Value × TypeId)) (Nat.ble (Nat.mul len size) 16777216) none
        (@Bool.casesOn (fun _ => Option (List Value × TypeId)) (Nat.beq z.cells.toList.length size) none
          (@Bool.casesOn (fun _ => Option (List Value × TypeId)) (Nat.blt 0 size) none
            (match Instr.fill (fun i => some (i * size, size)) (rep len z.cells.toList).toArray parts with
             | some cs => some (cs.toList, elem)
             | none => none)))
    | _, _ => none
  | _ => none
theorem bsCells_sound {ι : Iota} {t elem : TypeId} {len : Nat} {ps : List (Nat × Value)} {ps' : Array (Nat × Value)} {l : List Value} (hp : PR ι ps ps'.toList) (hs : bsCells P t len ps = some (l, elem)) :
    ∃ l', VRL ι l l' ∧ ∀ w : World, (Instr.buildSlice t len ps').run P w = .ok (.slice (some ⟨w.heap.size, 0, none⟩) len len) { w with heap := w.heap.push (.cells l'.toArray elem) } := by
  unfold bsCells at hs
  split at hs
  · rename_i elem hu
    split at hs
    · rename_i size z hn hz
      cases h1 : Nat.ble (Nat.mul len size) 16777216
      · rw [h1] at hs; cases hs
      · rw [h1] at hs
        cases h2 : Nat.beq z.cells.toList.length size
        · rw [h2] at hs; cases hs
        · rw [h2] at hs
          cases h3 : Nat.blt 0 size
          · rw [h3] at hs; cases hs
          · rw [h3] at hs
            simp only at hs
            split at hs
            · rename_i cs hcs
              cases hs
              obtain ⟨hf, hzr⟩ := zeroOf_eq hz
              have hsz : z.cells.size = size := by rw [← Nat.eq_of_beq_eq_true h2]; exact Array.length_toList.symm
              have hpos : 0 < size := Nat.le_of_ble_eq_true h3
              have hle : len * size ≤ 16777216 := Nat.le_of_ble_eq_true h1
              have hinit : VRL ι (rep len z.cells.toList).toArray.toList (rep len z.cells.toList).toArray.toList := VRL.of_flat ι (by simpa using flatL_rep len _ (flat_cells hf))
              obtain ⟨r', e1, e2⟩ := fill_rel _ _ _ _ _ _ hp hinit hcs
              have harr : (Array.range (len * size)).map (fun i => z.cells[i % z.cells.size]!) = (rep len z.cells.toList).toArray := by
                rw [← hsz]; exact rep_eq len z.cells (by omega)
              refine ⟨r'.toList, e2, fun w => ?_⟩
              simp only [Instr.buildSlice, Sem.run_bind, run_underlying hu, Result.andThen_ok, run_sizeOf hn]
              rw [if_neg (by omega)]
              by_cases hl0 : len * size = 0
              · have hl : len = 0 := by
                  rcases Nat.mul_eq_zero.1 hl0 with h | h
                  · exact h
                  · omega
                subst hl
                have harr0 : ((Array.range (0 * size)).map (fun i => (#[] : Array Value)[i % (#[] : Array Value).size]!)) = (rep 0 z.cells.toList).toArray := by simp [rep_zero]
                simp only [Nat.zero_mul, if_true, Sem.run_bind, Sem.run_pure, Result.andThen_ok]
                rw [Nat.zero_mul] at harr0
                rw [harr0, e1]
                simp [newRow]
              · simp only [hl0, if_false, Sem.run_bind, hzr, Result.andThen_ok, Sem.run_pure]
                rw [harr, e1]
                simp [newRow]
            · cases hs
    · cases hs
  · cases hs

noncomputable def abuildSlice (P : Program) (t : TypeId) (len : Nat) (parts : List (Nat × Value)) (h : Heap) : AR :=
  match bsCells P t len parts with
  | some (l, elem) => anew l elem len len h
  | none => .no
theorem abuildSlice_sound {ι : Iota} {h h' : Heap} {w : World} (hr : HR ι h w.heap) {t : TypeId} {len : Nat} {ps : List (Nat × Value)} {ps' : Array (Nat × Value)} {v : Value} (hp : PR ι ps ps'.toList) (hs : abuildSlice P t len ps h = .ok v h') :
    ∃ ι' v' w', (Instr.buildSlice t len ps').run P w = .ok v' w' ∧ VR ι' v v' ∧ HR ι' h' w'.heap ∧ Adv ι h w ι' h' w' := by
  unfold abuildSlice at hs
  split at hs
  · rename_i l elem hb
    obtain ⟨l', e1, e2⟩ := bsCells_sound (P := P) hp hb
    obtain ⟨ι', a1, a2, a3⟩ := anew_sound hr e1 hs
    exact ⟨ι', _, _, e2 w, a1, a2, a3⟩
  · cases hs

noncomputable def msCells (P : Program) (t : TypeId) (l c : Value) : Option (List Value × TypeId × Nat × Nat) :=
  match P.underlying t, natOf l, natOf c with
  | some (.slice elem), some n, some m =>
    match P.info? elem, zeroOf P elem with
    | some i, some z =>
      @Bool.casesOn (fun _ => Option (List Value × TypeId × Nat × Nat)) (Nat.ble n m) none
        (@Bool.casesOn (fun _ => Option (List Value × TypeId × Nat × Nat)) (Nat.ble (Nat.mul i.bytes m) 281474976710656) none
          (@Bool.casesOn (fun _ => Option (List Value × TypeId × Nat × Nat)) (Nat.blt m 281474976710656) none
            (@Bool.casesOn (fun _ => Option (List Value × TypeId × Nat × Nat)) (Nat.beq z.cells.toList.length i.size) none
              (@Bool.casesOn (fun _ => Option (List Value × TypeId × Nat × Nat)) (Nat.blt 0 i.size) none (some (rep m z.cells.toList, elem, n, m))))))
    | _, _ => none
  | _, _, _ => none

theorem wrap_i64 (n : Nat) (h : n < 9223372036854775808) : IntKind.i64.wrap (Int.ofNat n) = Int.ofNat n := by
  have e1 : (2 ^ IntKind.i64.bits : Int) = 18446744073709551616 := by decide
  have e2 : (2 ^ (IntKind.i64.bits - 1) : Int) = 9223372036854775808 := by decide
  simp only [IntKind.wrap, e1, e2]
  have : (Int.ofNat n) % 18446744073709551616 = Int.ofNat n := by
    simp only [Int.ofNat_eq_natCast]; omega
  rw [this]
  simp only [Int.ofNat_eq_natCast, IntKind.signed, Bool.true_and, ge_iff_le, decide_eq_true_eq]
  rw [if_neg (by omega)]

theorem msCells_sound {ι : Iota} {t elem : TypeId} {l l' c c' : Value} {vs : List Value} {n m : Nat} (hl : VR ι l l') (hc : VR ι c c') (hs : msCells P t l c = some (vs, elem, n, m)) :
    flatL vs = true ∧ ∀ w : World, (Instr.makeSlice t l' c').run P w = .ok (.slice (some ⟨w.heap.size, 0, none⟩) n m) { w with heap := w.heap.push (.cells vs.toArray elem) } := by
  unfold msCells at hs
  split at hs
  · rename_i elem n m hu hn hm
    obtain ⟨kl, rfl⟩ := natOf_eq hn
    obtain ⟨kc, rfl⟩ := natOf_eq hm
    cases hl; cases hc
    split at hs
    · rename_i i z hi hz
      cases h1 : Nat.ble n m
      · rw [h1] at hs; cases hs
      rw [h1] at hs
      cases h2 : Nat.ble (Nat.mul i.bytes m) 281474976710656
      · rw [h2] at hs; cases hs
      rw [h2] at hs
      cases h3 : Nat.blt m 281474976710656
      · rw [h3] at hs; cases hs
      rw [h3] at hs
      cases h4 : Nat.beq z.cells.toList.length i.size
      · rw [h4] at hs; cases hs
      rw [h4] at hs
      cases h5 : Nat.blt 0 i.size
      · rw [h5] at hs; cases hs
      rw [h5] at hs
      simp only [Option.some.injEq, Prod.mk.injEq] at hs
      obtain ⟨rfl, rfl, rfl, rfl⟩ := hs
      obtain ⟨hf, hzr⟩ := zeroOf_eq hz
      have hsz : z.cells.size = i.size := by rw [← Nat.eq_of_beq_eq_true h4]; exact Array.length_toList.symm
      have hpos : 0 < i.size := Nat.le_of_ble_eq_true h5
      have hnm : n ≤ m := Nat.le_of_ble_eq_true h1
      have hb : i.bytes * m ≤ 281474976710656 := Nat.le_of_ble_eq_true h2
      have hmlt : m < 281474976710656 := Nat.le_of_ble_eq_true h3
      refine ⟨flatL_rep m _ (flat_cells hf), fun w => ?_⟩
      have harr : (Array.range (m * i.size)).map (fun j => z.cells[j % z.cells.size]!) = (rep m z.cells.toList).toArray := by
        rw [← hsz]; exact rep_eq m z.cells (by omega)
      have hsize : tsz P elem = some i.size := by simp [tsz, hi]
      have e48 : (2 ^ 48 : Int) = 281474976710656 := by decide
      have hbm : ¬ ((i.bytes : Int) * (m : Int) > 281474976710656) := by
        rw [← Int.natCast_mul]
        generalize i.bytes * m = q at hb ⊢
        omega
      simp only [Instr.makeSlice, Sem.run_bind, run_underlying hu, Result.andThen_ok, asInt, asIntOf, Sem.run_pure, typeInfo, run_program, hi, wrap_i64 n (by omega), wrap_i64 m (by omega), e48]
      rw [if_neg (by
        simp only [Int.ofNat_eq_natCast, Bool.or_eq_true, decide_eq_true_eq]
        omega)]
      simp only [run_askRoom, Result.andThen_ok, Sem.run_bind, run_sizeOf hsize, Sem.run_pure]
      have htn : (Int.ofNat m).toNat = m := rfl
      have htl : (Int.ofNat n).toNat = n := rfl
      simp only [htn, htl]
      by_cases hm0 : m * i.size = 0
      · have hm' : m = 0 := by
          rcases Nat.mul_eq_zero.1 hm0 with h | h
          · exact h
          · omega
        subst hm'
        have er : Array.range 0 = #[] := rfl
        simp [newRow, rep_zero, er]
      · simp only [hm0, if_false, Sem.run_bind, hzr, Result.andThen_ok, Sem.run_pure]
        rw [harr]
        simp [newRow]
    · cases hs
  · cases hs

noncomputable def amakeSlice (P : Program) (t : TypeId) (l c : Value) (h : Heap) : AR :=
  match msCells P t l c with
  | some (vs, elem, n, m) => anew vs elem n m h
  | none => .no
theorem amakeSlice_sound {ι : Iota} {h h' : Heap} {w : World} (hr : HR ι h w.heap) {t : TypeId} {l l' c c' : Value} {v : Value} (hl : VR ι l l') (hc : VR ι c c') (hs : amakeSlice P t l c h = .ok v h') :
    ∃ ι' v' w', (Instr.makeSlice t l' c').run P w = .ok v' w' ∧ VR ι' v v' ∧ HR ι' h' w'.heap ∧ Adv ι h w ι' h' w' := by
  unfold amakeSlice at hs
  split at hs
  · rename_i vs elem n m hb
    obtain ⟨e1, e2⟩ := msCells_sound (P := P) hl hc hb
    obtain ⟨ι', a1, a2, a3⟩ := anew_sound hr (VRL.of_flat ι e1) hs
    exact ⟨ι', _, _, e2 w, a1, a2, a3⟩
  · cases hs

end Go.Dx
