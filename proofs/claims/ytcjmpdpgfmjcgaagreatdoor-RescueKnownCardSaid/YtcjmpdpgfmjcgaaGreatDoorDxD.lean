/- DxD: operations of the abstract run, part 1: operands, moves, addresses, loads, stores, new variables. -/
import Derived.Test.YtcjmpdpgfmjcgaaGreatDoorDxC
namespace Go.Dx
variable {P : Program}

inductive AR where
  | ok (v : Value) (h : Heap)
  | no

noncomputable def opv (h : Heap) (e : Env) (x : Operand) : Option Value :=
  @Operand.casesOn (fun _ => Option Value) x (fun t => lk t e) (fun v => @Bool.casesOn (fun _ => Option Value) (flat v) none (some v))
    (fun g => @Bool.casesOn (fun _ => Option Value) (Nat.blt g h.gl) none (@Option.casesOn AO (fun _ => Option Value) (h.get g) none (fun _ => some (.pointer (some ⟨g, 0, none⟩)))))
    (fun f => some (.func (.func f) #[] #[]))

theorem opv_sound {ι : Iota} {h : Heap} {hp : Array Obj} {e : Env} {a : Act} (hr : HR ι h hp) (he : EnvR ι e a.tmps) {x : Operand} {v : Value} (hv : opv h e x = some v) :
    VR ι v (a.eval x) := by
  cases x with
  | tmp t =>
    obtain ⟨v', h1, h2⟩ := he t v hv
    show VR ι v (a.tmps.getD t undef)
    rw [Array.getD_eq_getD_getElem?, h1]; exact h2
  | const c =>
    change @Bool.casesOn (fun _ => Option Value) (flat c) none (some c) = some v at hv
    cases hf : flat c
    · rw [hf] at hv; cases hv
    · rw [hf] at hv; cases hv; exact VR.of_flat ι hf
  | global g =>
    change @Bool.casesOn (fun _ => Option Value) (Nat.blt g h.gl) none (@Option.casesOn AO (fun _ => Option Value) (h.get g) none (fun _ => some (.pointer (some ⟨g, 0, none⟩)))) = some v at hv
    cases hg : Nat.blt g h.gl
    · rw [hg] at hv; cases hv
    · rw [hg] at hv
      cases ho : h.get g with
      | none => rw [ho] at hv; cases hv
      | some o =>
        rw [ho] at hv; cases hv
        obtain ⟨bi, o', i1, _, _⟩ := hr.obj g o ho
        have hlt : g < h.gl := Nat.le_of_ble_eq_true hg
        have := VR.ptr (o := 0) i1
        rw [hr.glo g bi hlt i1] at this
        exact this
  | func f => cases hv; exact .fn f .nil .nil

/-- What an operation that is not a call comes to. -/
def OpS (P : Program) (ι : Iota) (h : Heap) (w : World) (s : Sem Next) (v : Value) (h' : Heap) : Prop :=
  ∃ ι' v' w', (s.run P w = .ok (.value v') w' ∨ (s.run P w = .ok .skip w' ∧ v' = undef)) ∧ VR ι' v v' ∧ HR ι' h' w'.heap ∧ Adv ι h w ι' h' w'

theorem OpS.here {ι : Iota} {h : Heap} {w : World} {s : Sem Next} {v v' : Value} (hr : HR ι h w.heap) (hs : s.run P w = .ok (.value v') w) (hv : VR ι v v') : OpS P ι h w s v h :=
  ⟨ι, v', w, .inl hs, hv, hr, .refl _ _ _⟩

noncomputable def nth {α : Type} (l : List α) : Nat → Option α :=
  @List.rec α (fun _ => Nat → Option α) (fun _ => none) (fun x _ ih n => @Nat.casesOn (fun _ => Option α) n (some x) ih) l
theorem nth_eq {α : Type} (l : List α) (n : Nat) : nth l n = l[n]? := by
  induction l generalizing n with
  | nil => rfl
  | cons x l ih => cases n with
    | zero => rfl
    | succ n => show nth l n = _; rw [ih]; simp

/-! ### types -/
noncomputable def tsz (P : Program) (t : TypeId) : Option Nat := @Option.casesOn TypeInfo (fun _ => Option Nat) (P.info? t) none (fun i => some i.size)
theorem tsz_eq {t : TypeId} {n : Nat} (h : tsz P t = some n) : ∃ i, P.info? t = some i ∧ i.size = n := by
  unfold tsz at h
  cases hi : P.info? t with
  | none => rw [hi] at h; cases h
  | some i => rw [hi] at h; cases h; exact ⟨i, rfl, rfl⟩
theorem run_sizeOf {t : TypeId} {n : Nat} (h : tsz P t = some n) (w : World) : (sizeOf t).run P w = .ok n w := by
  obtain ⟨i, h1, rfl⟩ := tsz_eq h
  simp [sizeOf, typeInfo, h1]
theorem run_underlying {t : TypeId} {d : TypeDesc} (h : P.underlying t = some d) (w : World) : (underlying t).run P w = .ok d w := by
  simp [underlying, h]

/-- Whether a type's values are rows of cells. -/
def rowish : TypeDesc → Bool
  | .struct _ | .array _ _ => true
  | _ => false
theorem run_isAgg {t : TypeId} {d : TypeDesc} (h : P.underlying t = some d) (w : World) : (isAgg t).run P w = .ok (rowish d) w := by
  simp only [isAgg, Sem.run_bind, run_underlying h, Result.andThen_ok]
  cases d <;> rfl

theorem add_none (b o n : Nat) : (⟨b, o, none⟩ : Addr).add n = ⟨b, o + n, none⟩ := by
  unfold Addr.add; split <;> simp_all

/-! ### cells of a block -/
theorem HR.cellsAt {ι : Iota} {h : Heap} {w : World} (hr : HR ι h w.heap) {b : Nat} {bi : BI} {vs : List Value} {elem : TypeId} {op : Bool} (hg : h.get b = some (.cells vs elem op)) (hi : ι b = some bi) :
    ∃ c, w.heap[bi.blk]? = some (.cells c elem (0, 0)) ∧ c.size = bi.cnt ∧ vs.length ≤ c.size ∧ (op = false → vs.length = c.size) ∧ VRL ι vs (c.toList.take vs.length) := by
  obtain ⟨bi', o', i1, hw, ho⟩ := hr.obj b _ hg
  rw [hi] at i1; cases i1
  cases o' <;> simp only [OR] at ho
  obtain ⟨rfl, rfl, h3, h4, h5, h6⟩ := ho
  exact ⟨_, hw, h3, h4, h5, h6⟩

theorem cell?_of_block {w : World} {b o : Nat} {c : Array Value} {e : TypeId} {fz : Nat × Nat} (h : w.heap[b]? = some (.cells c e fz)) : w.cell? ⟨b, o, none⟩ = c[o]? := by
  simp [World.cell?, h]

theorem VRL.get_take {ι : Iota} {vs : List Value} {c : Array Value} (h : VRL ι vs (c.toList.take vs.length)) {i : Nat} {v : Value} (hv : vs[i]? = some v) :
    ∃ v', c[i]? = some v' ∧ VR ι v v' := by
  obtain ⟨v', h1, h2⟩ := h.get i v hv
  refine ⟨v', ?_, h2⟩
  have hlt : i < vs.length := (List.getElem?_eq_some_iff.1 hv).1
  rw [List.getElem?_take, if_pos hlt] at h1
  simpa using h1

theorem run_loadCells_at {w : World} {b o n : Nat} {c : Array Value} {e : TypeId} {fz : Nat × Nat} (h : w.heap[b]? = some (.cells c e fz)) (hn : o + n ≤ c.size) :
    (loadCells ⟨b, o, none⟩ n).run P w = .ok ((c.toList.drop o).take n).toArray w := by
  have hl : ((c.toList.drop o).take n).length = n := by simp; omega
  have := run_loadCells_list (P := P) w ⟨b, o, none⟩ ((c.toList.drop o).take n) (fun j v hv => by
    rw [add_none, cell?_of_block h]
    have hj : j < n := by have := (List.getElem?_eq_some_iff.1 hv).1; omega
    rw [List.getElem?_take, if_pos hj, List.getElem?_drop] at hv
    simpa using hv)
  rw [hl] at this; exact this

/-- A part of the row vs, from o on, n cells; none if it is not all there. -/
noncomputable def cut (vs : List Value) (o n : Nat) : Option (List Value) :=
  @Bool.casesOn (fun _ => Option (List Value)) (Nat.ble (Nat.add o n) vs.length) none (some ((vs.drop o).take n))
theorem cut_eq {vs : List Value} {o n : Nat} {l : List Value} (h : cut vs o n = some l) : o + n ≤ vs.length ∧ l = (vs.drop o).take n := by
  unfold cut at h
  cases hb : Nat.ble (Nat.add o n) vs.length
  · rw [hb] at h; cases h
  · rw [hb] at h; cases h; exact ⟨Nat.le_of_ble_eq_true hb, rfl⟩

/-- A cell whose value can be read out of what the run was handed: its blocks lie below a limit. -/
def okv (lim : Nat) : Value → Bool
  | .bool _ => true
  | .int _ _ => true
  | .string _ => true
  | .pointer none => true
  | .pointer (some ⟨b, _, none⟩) => Nat.blt b lim
  | .slice none _ _ => true
  | .slice (some ⟨b, _, none⟩) _ _ => Nat.blt b lim
  | .map none => true
  | .map (some b) => Nat.blt b lim
  | .nilFunc => true
  | .nilIface => true
  | _ => false
theorem okv_sound {ι : Iota} {lim : Nat} (hl : ∀ b, b < lim → ∃ bi', ι b = some bi' ∧ bi'.blk = b) {v : Value} (h : okv lim v = true) : VR ι v v := by
  unfold okv at h
  split at h
  · exact .bool _
  · exact .int _ _
  · exact .str _
  · exact .ptr0
  · rename_i b o
    obtain ⟨bi, h1, h2⟩ := hl b (Nat.le_of_ble_eq_true h)
    have := VR.ptr (o := o) h1; rw [h2] at this; exact this
  · exact .sl0 _ _
  · rename_i b o l c
    obtain ⟨bi, h1, h2⟩ := hl b (Nat.le_of_ble_eq_true h)
    have := VR.sl (o := o) (l := l) (c := c) h1; rw [h2] at this; exact this
  · exact .map0
  · rename_i b
    obtain ⟨bi, h1, h2⟩ := hl b (Nat.le_of_ble_eq_true h)
    have := VR.map h1; rw [h2] at this; exact this
  · exact .nilFunc
  · exact .nilIface
  · cases h
theorem okv_all {ι : Iota} {lim : Nat} (hl : ∀ b, b < lim → ∃ bi', ι b = some bi' ∧ bi'.blk = b) : ∀ {l : List Value}, l.all (okv lim) = true → VRL ι l l
  | [], _ => .nil
  | v :: l, h => by
    rw [List.all_cons, Bool.and_eq_true] at h
    exact .cons (okv_sound hl h.1) (okv_all hl h.2)
/-- Cells of an object that is only read. -/
noncomputable def rdo (lim : Nat) (ob : Obj) (o n : Nat) : Option (List Value) :=
  match ob with
  | .cells c _ _ => match cut c.toList o n with
    | some l => @Bool.casesOn (fun _ => Option (List Value)) (l.all (okv lim)) none (some l)
    | none => none
  | _ => none
theorem HR.rdo {ι : Iota} {h : Heap} {w : World} (hr : HR ι h w.heap) {b lim o n : Nat} {ob : Obj} {l : List Value} {bi : BI} (hg : h.get b = some (.ro lim ob)) (hi : ι b = some bi) (hs : rdo lim ob o n = some l) :
    ∃ c e fz, w.heap[bi.blk]? = some (.cells c e fz) ∧ o + n ≤ c.size ∧ l = (c.toList.drop o).take n ∧ VRL ι l l := by
  obtain ⟨bi', o', i1, hw, ho⟩ := hr.obj b _ hg
  rw [hi] at i1; cases i1
  simp only [OR] at ho
  obtain ⟨rfl, hl⟩ := ho
  unfold Dx.rdo at hs
  split at hs
  · rename_i c e fz
    split at hs
    · rename_i l1 hc
      cases hb : l1.all (okv lim)
      · rw [hb] at hs; cases hs
      · rw [hb] at hs; cases hs
        obtain ⟨h1, h2⟩ := cut_eq hc
        exact ⟨c, e, fz, hw, by simpa using h1, h2, okv_all hl hb⟩
    · cases hs
  · cases hs

/-- A load of a variable of type t, which lies in the block's cells. -/
noncomputable def aload (P : Program) (t : TypeId) (p : Value) (h : Heap) : Option Value :=
  match p with
  | .pointer (some ⟨b, o, none⟩) =>
    match h.get b with
    | some (.cells vs _ _) =>
      match P.underlying t with
      | some d =>
        @Bool.casesOn (fun _ => Option Value) (rowish d) (nth vs o)
          (match tsz P t with
           | some n => match cut vs o n with | some l => some (.agg ⟨l⟩) | none => none
           | none => none)
      | none => none
    | some (.ro lim ob) =>
      match P.underlying t with
      | some d =>
        @Bool.casesOn (fun _ => Option Value) (rowish d) (match rdo lim ob o 1 with | some [v] => some v | _ => none)
          (match tsz P t with
           | some n => match rdo lim ob o n with | some l => some (.agg ⟨l⟩) | none => none
           | none => none)
      | none => none
    | _ => none
  | _ => none

theorem aload_sound {ι : Iota} {h : Heap} {w : World} (hr : HR ι h w.heap) {t : TypeId} {p p' v : Value} (hp : VR ι p p') (hv : aload P t p h = some v) :
    ∃ v', (Instr.loadAt t p').run P w = .ok v' w ∧ VR ι v v' := by
  unfold aload at hv
  split at hv
  · rename_i b o
    cases hp with
    | ptr hi =>
      rename_i bi
      split at hv
      · rename_i vs elem op hg
        obtain ⟨c, hc, hcn, hle, _, hvs⟩ := hr.cellsAt hg hi
        split at hv
        · rename_i d hd
          cases hrow : rowish d
          · rw [hrow] at hv
            simp only [nth_eq] at hv
            obtain ⟨v', h1, h2⟩ := hvs.get_take hv
            refine ⟨v', ?_, h2⟩
            simp only [Instr.loadAt, Instr.sureAddr, Sem.run_bind, Sem.run_pure, Result.andThen_ok, loadVar, run_isAgg hd, hrow, Bool.false_eq_true, if_false, run_load, cell?_of_block hc, h1]
          · rw [hrow] at hv
            simp only at hv
            split at hv
            · rename_i n hn
              split at hv
              · rename_i l hl
                cases hv
                obtain ⟨hle2, rfl⟩ := cut_eq hl
                refine ⟨.agg ((c.toList.drop o).take n).toArray, ?_, .agg ?_⟩
                · simp only [Instr.loadAt, Instr.sureAddr, Sem.run_bind, Sem.run_pure, Result.andThen_ok, loadVar, run_isAgg hd, hrow, if_true, run_sizeOf hn,
                    run_loadCells_at hc (show o + n ≤ c.size by omega)]
                · have := (hvs.drop o).take n
                  rw [List.drop_take, List.take_take, Nat.min_eq_left (by omega)] at this
                  exact this
              · cases hv
            · cases hv
        · cases hv
      · rename_i lim ob hg
        split at hv
        · rename_i d hd
          cases hrow : rowish d
          · rw [hrow] at hv
            simp only at hv
            split at hv
            · rename_i v1 hro
              cases hv
              obtain ⟨c, e, fz, hw, hle, hl, hvr⟩ := hr.rdo hg hi hro
              cases hvr with
              | cons h2 _ =>
              refine ⟨v, ?_, h2⟩
              have h1 : c[o]? = some v := by
                have : ((c.toList.drop o).take 1)[0]? = some v := by rw [← hl]; rfl
                rw [List.getElem?_take, if_pos (by omega), List.getElem?_drop] at this
                simpa using this
              simp only [Instr.loadAt, Instr.sureAddr, Sem.run_bind, Sem.run_pure, Result.andThen_ok, loadVar, run_isAgg hd, hrow, Bool.false_eq_true, if_false, run_load, cell?_of_block hw, h1]
            · cases hv
          · rw [hrow] at hv
            simp only at hv
            split at hv
            · rename_i n hn
              split at hv
              · rename_i l hro
                cases hv
                obtain ⟨c, e, fz, hw, hle, hl, hvr⟩ := hr.rdo hg hi hro
                refine ⟨.agg l.toArray, ?_, .agg (by simpa using hvr)⟩
                simp only [Instr.loadAt, Instr.sureAddr, Sem.run_bind, Sem.run_pure, Result.andThen_ok, loadVar, run_isAgg hd, hrow, if_true, run_sizeOf hn, run_loadCells_at hw hle, hl]
              · cases hv
            · cases hv
        · cases hv
      · cases hv
  · cases hv

end Go.Dx
