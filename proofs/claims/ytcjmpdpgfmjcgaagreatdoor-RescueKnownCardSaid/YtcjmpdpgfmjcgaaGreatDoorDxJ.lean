/- DxJ: operations of the abstract run, part 7: append and copy. -/
import Derived.Test.YtcjmpdpgfmjcgaaGreatDoorDxI
namespace Go.Dx
variable {P : Program}

theorem nextcap_le (need c : Nat) (h : c < need) : Builtin.nextslicecap need c ≤ 2 * need + 192 := by
  have hg : ∀ (r c : Nat), c ≤ 2 * need + 192 → Builtin.growBy need r c ≤ 2 * need + 192 := by
    intro r
    induction r with
    | zero => intro c hc; exact hc
    | succ r ih =>
      intro c hc
      unfold Builtin.growBy
      split
      · exact hc
      · exact ih _ (by omega)
  unfold Builtin.nextslicecap
  split
  · omega
  · split
    · omega
    · exact hg 4 c (by omega)

noncomputable def asrc (P : Program) (elem : TypeId) (size : Nat) (xType : TypeId) (x : Value) (h : Heap) : Option (Nat × List Value) :=
  match P.underlying xType with
  | some (.int _) =>
    match natOf x, zeroOf P elem, P.info? elem with
    | some n, some z, some i =>
      @Bool.casesOn (fun _ => Option (Nat × List Value)) (Nat.ble (Nat.mul n i.bytes) 281474976710656) none
        (@Bool.casesOn (fun _ => Option (Nat × List Value)) (Nat.blt n 281474976710656) none
          (@Bool.casesOn (fun _ => Option (Nat × List Value)) (Nat.beq z.cells.toList.length size) none
            (@Bool.casesOn (fun _ => Option (Nat × List Value)) (Nat.blt 0 size) none (some (n, rep n z.cells.toList)))))
    | _, _, _ => none
  | some _ =>
    match x with
    | .slice none 0 _ => some (0, [])
    | .slice (some ⟨b, o, _⟩) n _ =>
      match h.get b with
      | some (.cells vs _ _) => match cut vs o (Nat.mul n size) with | some l => some (n, l) | none => none
      | some (.ro lim ob) => match rdo lim ob o (Nat.mul n size) with | some l => some (n, l) | none => none
      | _ => none
    | _ => none
  | none => none

/-- What 'append' draws out of its second argument: how many elements, and their cells. -/
structure Src (P : Program) (ι : Iota) (elem : TypeId) (size : Nat) (xType : TypeId) (x' : Value) (w : World) (n : Nat) (l : List Value) : Prop where
  ex : ∃ l', VRL ι l l' ∧ l'.length = n * size ∧
    ((∃ k k', P.underlying xType = some (.int k) ∧ x' = .int k' (Int.ofNat n) ∧ n < 281474976710656 ∧ (∃ i, P.info? elem = some i ∧ n * i.bytes ≤ 281474976710656) ∧
        ∃ z, (∀ w, (zeroValue elem).run P w = .ok z w) ∧ z.cells.size = size ∧ 0 < size ∧ l' = rep n z.cells.toList) ∨
     ((∃ d, P.underlying xType = some d ∧ ∀ k, d ≠ .int k) ∧ (Builtin.lenOf x').run P w = .ok n w ∧ ∀ w1 : World, w1.heap = w.heap → (Builtin.firstCells size n x').run P w1 = .ok l'.toArray w1))

theorem asrc_sound {ι : Iota} {h : Heap} {w : World} (hr : HR ι h w.heap) {elem xType : TypeId} {size n : Nat} {x x' : Value} {l : List Value} (hx : VR ι x x') (hs : asrc P elem size xType x h = some (n, l)) :
    Src P ι elem size xType x' w n l := by
  unfold asrc at hs
  split at hs
  · rename_i k hu
    split at hs
    · rename_i n1 z i hn hz hi
      obtain ⟨k', rfl⟩ := natOf_eq hn
      cases hx
      cases h1 : Nat.ble (Nat.mul n1 i.bytes) 281474976710656
      · rw [h1] at hs; cases hs
      rw [h1] at hs
      cases h2 : Nat.blt n1 281474976710656
      · rw [h2] at hs; cases hs
      rw [h2] at hs
      cases h3 : Nat.beq z.cells.toList.length size
      · rw [h3] at hs; cases hs
      rw [h3] at hs
      cases h4 : Nat.blt 0 size
      · rw [h4] at hs; cases hs
      rw [h4] at hs
      cases hs
      obtain ⟨hf, hzr⟩ := zeroOf_eq hz
      have hsz : z.cells.size = size := by rw [← Nat.eq_of_beq_eq_true h3]; exact Array.length_toList.symm
      refine ⟨rep n z.cells.toList, VRL.of_flat ι (flatL_rep n _ (flat_cells hf)), ?_, .inl ⟨k, k', hu, rfl, Nat.le_of_ble_eq_true h2, ⟨i, hi, Nat.le_of_ble_eq_true h1⟩, z, hzr, hsz, Nat.le_of_ble_eq_true h4, rfl⟩⟩
      rw [rep_length, Array.length_toList, hsz]
    · cases hs
  · rename_i d hnot hu
    split at hs
    · cases hs
      cases hx
      exact ⟨[], .nil, by simp, .inr ⟨⟨d, hu, fun k hd => hnot k hd⟩, by simp [Builtin.lenOf], fun _ _ => by simp [Builtin.firstCells]⟩⟩
    · rename_i b o sp n1 cap
      split at hs
      · rename_i vs e op hg
        split at hs
        · rename_i l1 hcut
          cases hs
          obtain ⟨hle, rfl⟩ := cut_eq hcut
          change o + n * size ≤ vs.length at hle
          have key : ∀ bi : BI, ι b = some bi → ∃ l', VRL ι ((vs.drop o).take (n * size)) l' ∧ l'.length = n * size ∧ ∀ w1 : World, w1.heap = w.heap → (loadCells ⟨bi.blk, o, none⟩ (n * size)).run P w1 = .ok l'.toArray w1 := by
            intro bi hb
            obtain ⟨c, hc, _, hlec, _, hvs⟩ := hr.cellsAt hg hb
            refine ⟨(c.toList.drop o).take (n * size), ?_, by simp; omega, fun w1 hw1 => run_loadCells_at (w := w1) (by rw [hw1]; exact hc) (by omega)⟩
            have := (hvs.drop o).take (n * size)
            rw [List.drop_take, List.take_take, Nat.min_eq_left (by omega)] at this
            exact this
          cases hx with
          | @sl _ _ _ _ bi hb =>
            obtain ⟨l', a1, a2, a3⟩ := key bi hb
            exact ⟨l', a1, a2, .inr ⟨⟨d, hu, fun k hd => hnot k hd⟩, by simp [Builtin.lenOf], fun w1 hw1 => by simp only [Builtin.firstCells]; exact a3 w1 hw1⟩⟩
          | @slo _ _ _ _ cap' bi hb _ _ =>
            obtain ⟨l', a1, a2, a3⟩ := key bi hb
            exact ⟨l', a1, a2, .inr ⟨⟨d, hu, fun k hd => hnot k hd⟩, by simp [Builtin.lenOf], fun w1 hw1 => by simp only [Builtin.firstCells]; exact a3 w1 hw1⟩⟩
          | sle _ a c =>
            refine ⟨[], ?_, by simp, .inr ⟨⟨d, hu, fun k hd => hnot k hd⟩, by simp [Builtin.lenOf], fun w1 hw1 => by simp [Builtin.firstCells, loadCells, loadCellsFrom]⟩⟩
            have : Nat.mul 0 size = 0 := Nat.zero_mul _
            rw [this]; exact .nil
        · cases hs
      · rename_i lim ob hg
        split at hs
        · rename_i l1 hro
          cases hs
          have key : ∀ bi : BI, ι b = some bi → VRL ι l l ∧ l.length = n * size ∧ ∀ w1 : World, w1.heap = w.heap → (loadCells ⟨bi.blk, o, none⟩ (n * size)).run P w1 = .ok l.toArray w1 := by
            intro bi hb
            obtain ⟨c, e, fz, hw, hle, hl, hvr⟩ := hr.rdo hg hb hro
            change o + n * size ≤ c.size at hle
            refine ⟨hvr, by rw [hl]; show ((c.toList.drop o).take (n * size)).length = _; simp; omega, fun w1 hw1 => ?_⟩
            rw [hl]
            exact run_loadCells_at (w := w1) (by rw [hw1]; exact hw) hle
          cases hx with
          | @sl _ _ _ _ bi hb =>
            obtain ⟨a1, a2, a3⟩ := key bi hb
            exact ⟨l, a1, a2, .inr ⟨⟨d, hu, fun k hd => hnot k hd⟩, by simp [Builtin.lenOf], fun w1 hw1 => by simp only [Builtin.firstCells]; exact a3 w1 hw1⟩⟩
          | @slo _ _ _ _ cap' bi hb _ _ =>
            obtain ⟨a1, a2, a3⟩ := key bi hb
            exact ⟨l, a1, a2, .inr ⟨⟨d, hu, fun k hd => hnot k hd⟩, by simp [Builtin.lenOf], fun w1 hw1 => by simp only [Builtin.firstCells]; exact a3 w1 hw1⟩⟩
          | sle _ a c =>
            obtain ⟨bi, o', i1, _, _⟩ := hr.obj b _ hg
            obtain ⟨a1, a2, _⟩ := key bi i1
            obtain rfl : l = [] := List.eq_nil_of_length_eq_zero (by rw [a2]; exact Nat.zero_mul _)
            exact ⟨[], .nil, by simp, .inr ⟨⟨d, hu, fun k hd => hnot k hd⟩, by simp [Builtin.lenOf], fun w1 hw1 => by simp [Builtin.firstCells, loadCells, loadCellsFrom]⟩⟩
        · cases hs
      · cases hs
    · cases hs
  · cases hs

/-- 'append', where the capacity suffices. -/
theorem run_append_fits {ι : Iota} {argTypes : Array TypeId} {args : Array Value} {ty sType xType elem : TypeId} {size n sLen sCap : Nat} {base : Option Addr} {x' : Value} {w : World} {l : List Value}
    (h0 : argTypes[0]? = some sType) (h1 : argTypes[1]? = some xType) (a0 : args[0]? = some (.slice base sLen sCap)) (a1 : args[1]? = some x') (hu : P.underlying sType = some (.slice elem)) (hsz : tsz P elem = some size)
    (hsrc : Src P ι elem size xType x' w n l) (hfit : sLen + n ≤ sCap) :
    ∃ l', VRL ι l l' ∧ l'.length = n * size ∧ (Builtin.append_ argTypes ty args).run P w =
      match base with
      | some a => ((storeCells (a.add (sLen * size)) l').run P w).andThen fun _ w' => .ok (.slice base (sLen + n) sCap) w'
      | none => .ok (.slice base (sLen + n) sCap) w := by
  obtain ⟨l', e1, e2, e3⟩ := hsrc.ex
  refine ⟨l', e1, e2, ?_⟩
  have hw : ∀ m : Nat, m < 281474976710656 → IntKind.i64.wrap (m : Int) = (m : Int) := fun m hm => wrap_i64 m (by omega)
  rcases e3 with ⟨k, k', hk, rfl, hlt, ⟨i, hi, hib⟩, z, hz, hzs, hpos, rfl⟩ | ⟨⟨d, hd, hne⟩, hlen, hfc⟩
  · have hib' : ¬ ((n : Int) * (i.bytes : Int) > 2 ^ 48) := by
      rw [← Int.natCast_mul]
      generalize n * i.bytes = q at hib ⊢
      have : (2 ^ 48 : Int) = 281474976710656 := by decide
      omega
    have hzc : Builtin.zeroCells z.cells n = (rep n z.cells.toList).toArray := rep_eq n z.cells (by omega)
    have hnn : ¬ ((n : Int) < 0) := by omega
    simp only [Builtin.append_, h0, h1, a0, a1, Sem.run_bind, run_underlying hu, Result.andThen_ok, run_sizeOf hsz, run_underlying hk, Sem.run_pure, if_true, asInt, asIntOf, Int.ofNat_eq_natCast, hw n hlt,
      hnn, if_false, typeInfo, run_program, hi, hib', Int.toNat_natCast, hfit]
    by_cases hn0 : n * size = 0
    · have hn : n = 0 := by
        rcases Nat.mul_eq_zero.1 hn0 with h | h
        · exact h
        · omega
      subst hn
      cases base <;> simp [rep_zero]
    · have hb : (!true) = false := rfl
      simp only [Bool.not_true, Bool.false_eq_true, if_false, hn0, Sem.run_bind, hz, Result.andThen_ok, Sem.run_pure, hzc]
      cases base <;> simp
  · have hzf : (match d with | .int _ => true | _ => false) = false := by cases d <;> first | rfl | exact absurd rfl (hne _)
    have hmatch : (Sem.run P (do pure (match ← underlying xType with | .int _ => true | _ => false)) w : Result Bool) = .ok false w := by
      simp only [Sem.run_bind, run_underlying hd, Result.andThen_ok, Sem.run_pure, hzf]
    simp only [Builtin.append_, h0, h1, a0, a1, Sem.run_bind, run_underlying hu, Result.andThen_ok, run_sizeOf hsz, run_underlying hd, Sem.run_pure, hzf, Bool.false_eq_true, if_false, hlen, hfit, if_true,
      Bool.not_false, hfc w rfl]
    cases base <;> simp

/-- 'append', where the capacity does not suffice: a new row, of whatever capacity. -/
theorem run_append_grows {ι : Iota} {argTypes : Array TypeId} {args : Array Value} {ty sType xType elem : TypeId} {size n sLen sCap : Nat} {base : Option Addr} {x' z : Value} {w : World} {l old : List Value} {i : TypeInfo}
    (h0 : argTypes[0]? = some sType) (h1 : argTypes[1]? = some xType) (a0 : args[0]? = some (.slice base sLen sCap)) (a1 : args[1]? = some x') (hu : P.underlying sType = some (.slice elem)) (hsz : tsz P elem = some size)
    (hi : P.info? elem = some i) (hz : ∀ w, (zeroValue elem).run P w = .ok z w) (hzs : z.cells.size = size) (hpos : 0 < size)
    (hsrc : Src P ι elem size xType x' w n l) (hgrow : ¬ sLen + n ≤ sCap) (hb : (2 * (sLen + n) + 192) * i.bytes ≤ 281474976710656) (hneed : sLen + n < 281474976710656)
    (hold : ∀ w1 : World, w1.heap = w.heap → (Builtin.firstCells size sLen (.slice base sLen sCap)).run P w1 = .ok old.toArray w1) :
    ∃ l' newCap rest, VRL ι l l' ∧ l'.length = n * size ∧ sLen + n ≤ newCap ∧ rest.length = (newCap - (sLen + n)) * size ∧ (Builtin.append_ argTypes ty args).run P w =
      .ok (.slice (some ⟨w.heap.size, 0, none⟩) (sLen + n) newCap) { w with heap := w.heap.push (.cells (old ++ l' ++ rest).toArray elem), drawn := w.drawn + 1 } := by
  obtain ⟨l', e1, e2, e3⟩ := hsrc.ex
  have hw : ∀ m : Nat, m < 281474976710656 → IntKind.i64.wrap (m : Int) = (m : Int) := fun m hm => wrap_i64 m (by omega)
  obtain ⟨newCap, hcap, hle⟩ : ∃ c, c = (Question.appendCap (sLen + n) sCap elem).cut (w.tape w.drawn (.appendCap (sLen + n) sCap elem)) ∧ sLen + n ≤ c := ⟨_, rfl, by simp [Question.cut]⟩
  have hrest : Builtin.zeroCells z.cells (newCap - (sLen + n)) = (rep (newCap - (sLen + n)) z.cells.toList).toArray := rep_eq _ z.cells (by omega)
  refine ⟨l', newCap, rep (newCap - (sLen + n)) z.cells.toList, e1, e2, hle, by rw [rep_length, Array.length_toList, hzs], ?_⟩
  have hcapb : ¬ Builtin.nextslicecap (sLen + n) sCap * i.bytes > 2 ^ 48 := by
    have h1 := nextcap_le (sLen + n) sCap (by omega)
    have h2 : Builtin.nextslicecap (sLen + n) sCap * i.bytes ≤ (2 * (sLen + n) + 192) * i.bytes := Nat.mul_le_mul_right _ h1
    have : (2 ^ 48 : Nat) = 281474976710656 := by decide
    omega
  have hmax : ¬ (((sLen + n : Nat) : Int) > IntKind.i64.max) := by
    have : IntKind.i64.max = 9223372036854775807 := by decide
    omega
  have hforced : (Question.appendCap (sLen + n) sCap elem).forced = false := rfl
  have hchoose : (choose (.appendCap (sLen + n) sCap elem)).run P w = .ok newCap { w with drawn := w.drawn + 1 } := by
    rw [run_choose, hforced, if_neg (by simp), hcap]
  rcases e3 with ⟨k, k', hk, rfl, hlt, ⟨i', hi', hib⟩, z', hz', hzs', _, rfl⟩ | ⟨⟨d, hd, hne⟩, hlen, hfc⟩
  · rw [hi] at hi'; cases hi'
    have hzz : z' = z := by have h1 := hz' w; rw [hz w] at h1; cases h1; rfl
    subst hzz
    have hib' : ¬ ((n : Int) * (i.bytes : Int) > 2 ^ 48) := by
      rw [← Int.natCast_mul]
      generalize n * i.bytes = q at hib ⊢
      have : (2 ^ 48 : Int) = 281474976710656 := by decide
      omega
    have hzc : Builtin.zeroCells z'.cells n = (rep n z'.cells.toList).toArray := rep_eq n z'.cells (by omega)
    have hnn : ¬ ((n : Int) < 0) := by omega
    simp only [Builtin.append_, h0, h1, a0, a1, Sem.run_bind, run_underlying hu, Result.andThen_ok, run_sizeOf hsz, run_underlying hk, Sem.run_pure, if_true, asInt, asIntOf, Int.ofNat_eq_natCast, hw n hlt,
      hnn, if_false, typeInfo, run_program, hi, hib', Int.toNat_natCast, hgrow, hmax, false_and, hcapb, hchoose, run_askRoom, hold { w with drawn := w.drawn + 1 } rfl]
    by_cases hn0 : n * size = 0
    · have hn : n = 0 := by
        rcases Nat.mul_eq_zero.1 hn0 with h | h
        · exact h
        · omega
      subst hn
      simp only [Nat.zero_mul, if_true, Bool.not_true, Bool.false_eq_true, if_false, Sem.run_pure, Result.andThen_ok, Sem.run_bind, hz, hrest, newRow, run_newObj, rep_zero]
      simp
    · simp only [Bool.not_true, Bool.false_eq_true, if_false, hn0, Sem.run_bind, hz, Result.andThen_ok, Sem.run_pure, hzc, hrest, newRow, run_newObj]
      simp
  · have hzf : (match d with | .int _ => true | _ => false) = false := by cases d <;> first | rfl | exact absurd rfl (hne _)
    simp only [Builtin.append_, h0, h1, a0, a1, Sem.run_bind, run_underlying hu, Result.andThen_ok, run_sizeOf hsz, run_underlying hd, Sem.run_pure, hzf, Bool.false_eq_true, if_false, hlen, hgrow, if_true,
      Bool.not_false, hmax, false_and, typeInfo, run_program, hi, hcapb, hchoose, run_askRoom, hold { w with drawn := w.drawn + 1 } rfl, hfc { w with drawn := w.drawn + 1 } rfl, hz, hrest, newRow, run_newObj]
    simp

end Go.Dx
