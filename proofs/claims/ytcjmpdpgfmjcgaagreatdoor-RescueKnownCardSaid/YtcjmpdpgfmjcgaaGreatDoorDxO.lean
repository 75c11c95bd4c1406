/- DxO: operations of the abstract run: every operation that is not a call of a function. -/
import Derived.Test.YtcjmpdpgfmjcgaaGreatDoorDxN
namespace Go.Dx
variable {P : Program} {ι : Iota}

noncomputable def opvl (h : Heap) (e : Env) (l : List Operand) : Option (List Value) :=
  @List.rec Operand (fun _ => Option (List Value)) (some []) (fun x _ ih => match opv h e x, ih with | some v, some r => some (v :: r) | _, _ => none) l
theorem opvl_sound {h : Heap} {hp : Array Obj} {e : Env} {a : Act} (hr : HR ι h hp) (he : EnvR ι e a.tmps) : ∀ {l : List Operand} {r : List Value}, opvl h e l = some r → VRL ι r (l.map a.eval) := by
  intro l
  induction l with
  | nil => intro r hs; cases hs; exact .nil
  | cons x l ih =>
    intro r hs
    change (match opv h e x, opvl h e l with | some v, some r => some (v :: r) | _, _ => none) = some r at hs
    split at hs
    · rename_i v r' h1 h2
      cases hs
      exact .cons (opv_sound hr he h1) (ih h2)
    · cases hs

noncomputable def opvo (h : Heap) (e : Env) (x : Option Operand) : Option (Option Value) :=
  match x with
  | none => some none
  | some y => match opv h e y with
    | some v => some (some v)
    | none => none
theorem opvo_sound {h : Heap} {hp : Array Obj} {e : Env} {a : Act} (hr : HR ι h hp) (he : EnvR ι e a.tmps) {x : Option Operand} {r : Option Value} (hs : opvo h e x = some r) : OVR ι r (x.map a.eval) := by
  unfold opvo at hs
  split at hs
  · cases hs; exact .none
  · split at hs
    · rename_i v hv; cases hs; exact .some (opv_sound hr he hv)
    · cases hs

/-! ### copy -/
/-- Cells of a block. -/
noncomputable def rdc (h : Heap) (b o n : Nat) : Option (List Value) :=
  match h.get b with
  | some (.cells vs _ _) => cut vs o n
  | some (.ro lim ob) => rdo lim ob o n
  | _ => none
theorem HR.rdc {h : Heap} {w : World} (hr : HR ι h w.heap) {b o n : Nat} {l : List Value} {bi : BI} (hi : ι b = some bi) (hs : rdc h b o n = some l) :
    ∃ c e fz, w.heap[bi.blk]? = some (.cells c e fz) ∧ o + n ≤ c.size ∧ VRL ι l ((c.toList.drop o).take n) := by
  unfold Dx.rdc at hs
  split at hs
  · rename_i vs e op hg
    obtain ⟨hle, rfl⟩ := cut_eq hs
    obtain ⟨c, hc, _, hlec, _, hvs⟩ := hr.cellsAt hg hi
    refine ⟨c, _, _, hc, by omega, ?_⟩
    have := (hvs.drop o).take n
    rw [List.drop_take, List.take_take, Nat.min_eq_left (by omega)] at this
    exact this
  · rename_i lim ob hg
    obtain ⟨c, e, fz, hw, hle, hl, hvr⟩ := hr.rdo hg hi hs
    exact ⟨c, e, fz, hw, hle, by rw [← hl]; exact hvr⟩
  · cases hs

noncomputable def acopy (P : Program) (dType : TypeId) (d x : Value) (h : Heap) : AR :=
  match P.underlying dType with
  | some (.slice elem) =>
    match tsz P elem, d, x with
    | some _, .slice (some ⟨_, _, some 0⟩) _ _, _ => .no
    | some _, _, .slice (some ⟨_, _, some 0⟩) _ _ => .no
    | some size, .slice (some ⟨b, o, _⟩) dLen _, .slice (some ⟨b2, o2, _⟩) xLen _ =>
      match h.get b with
      | some (.cells vs e op) =>
        match rdc h b2 o2 (Nat.mul (Nat.min xLen dLen) size) with
        | some l =>
          @Bool.casesOn (fun _ => AR) (allOne l) .no
            (match lay vs o l with
             | some r => .ok (.int .i64 (Int.ofNat (Nat.min xLen dLen))) (h.set b (.cells r e op))
             | none => .no)
        | none => .no
      | _ => .no
    | some _, .slice _ dLen _, .slice none 0 _ => .ok (.int .i64 (Int.ofNat 0)) h
    | _, _, _ => .no
  | _ => .no

theorem acopy_sound {h h' : Heap} {w : World} (hr : HR ι h w.heap) {argTypes : Array TypeId} {args' : Array Value} {ty dType : TypeId} {d d' x x' v : Value} (h0 : argTypes[0]? = some dType) (a0 : args'[0]? = some d') (a1 : args'[1]? = some x')
    (hd : VR ι d d') (hx : VR ι x x') (hs : acopy P dType d x h = .ok v h') :
    ∃ v' w', (Builtin.copy_ argTypes ty args').run P w = .ok v' w' ∧ VR ι v v' ∧ HR ι h' w'.heap ∧ Adv ι h w ι h' w' := by
  unfold acopy at hs
  split at hs
  case h_2 => cases hs
  rename_i elem hu
  split at hs
  · cases hs
  · cases hs
  · rename_i size b o sp dLen dCap b2 o2 sp2 xLen xCap hsp0 hsp2 hn
    split at hs
    case h_2 => cases hs
    rename_i vs e op hg
    split at hs
    case h_2 => cases hs
    rename_i l hcut
    cases c1 : allOne l
    · rw [c1] at hs; cases hs
    rw [c1] at hs
    simp only at hs
    split at hs
    case h_2 => cases hs
    rename_i r hlay
    simp only [AR.ok.injEq] at hs
    obtain ⟨rfl, rfl⟩ := hs
    obtain ⟨bi, dCap', hb, rfl⟩ : ∃ bi c', ι b = some bi ∧ d' = .slice (some ⟨bi.blk, o, none⟩) dLen c' := by
      cases hd with
      | @sl _ _ _ _ bi hb => exact ⟨bi, _, hb, rfl⟩
      | @slo _ _ _ _ c' bi hb _ _ => exact ⟨bi, c', hb, rfl⟩
      | sle => exact (hsp0 rfl).elim
    obtain ⟨bi2, xCap', hb2, rfl⟩ : ∃ bi c', ι b2 = some bi ∧ x' = .slice (some ⟨bi.blk, o2, none⟩) xLen c' := by
      cases hx with
      | @sl _ _ _ _ bi hb => exact ⟨bi, _, hb, rfl⟩
      | @slo _ _ _ _ c' bi hb _ _ => exact ⟨bi, c', hb, rfl⟩
      | sle => exact (hsp2 rfl).elim
    obtain ⟨c, _, _, hc, hlec, hl⟩ := hr.rdc hb2 hcut
    change o2 + Nat.min xLen dLen * size ≤ c.size at hlec
    change VRL ι l ((c.toList.drop o2).take (Nat.min xLen dLen * size)) at hl
    have hload := run_loadCells_at (P := P) (n := Nat.min xLen dLen * size) hc hlec
    obtain ⟨w', e1, e2, e3⟩ := hr.lay (P := P) hg hb hl c1 hlay
    refine ⟨goInt (Nat.min xLen dLen : Nat), w', ?_, .int _ _, e2, e3⟩
    simp only [Builtin.copy_, h0, a0, a1, Sem.run_bind, run_underlying hu, Result.andThen_ok, Builtin.lenOf, Sem.run_pure, run_sizeOf hn, Builtin.firstCells, hload, List.toList_toArray, e1]
  · rename_i size0 base dLen dCap xCap hn
    simp only [AR.ok.injEq] at hs
    obtain ⟨rfl, rfl⟩ := hs
    cases hx
    have hmin : ∀ q, Nat.min 0 q = 0 := fun q => Nat.zero_min q
    have hd' : ∃ base' l' c', d' = .slice base' l' c' := by
      cases hd with
      | sl0 => exact ⟨_, _, _, rfl⟩
      | sl => exact ⟨_, _, _, rfl⟩
      | slo => exact ⟨_, _, _, rfl⟩
      | sle => exact ⟨_, _, _, rfl⟩
    obtain ⟨base', l', c', rfl⟩ := hd'
    refine ⟨goInt 0, w, ?_, .int _ _, hr, .refl _ _ _⟩
    simp only [Builtin.copy_, h0, a0, a1, Sem.run_bind, run_underlying hu, Result.andThen_ok, Builtin.lenOf, Sem.run_pure, run_sizeOf hn, Builtin.firstCells, hmin]
    cases base' <;> simp [storeCells, goInt]
  · cases hs

/-! ### builtins -/
noncomputable def alen (t : Option TypeDesc) (x : Value) (h : Heap) : Option Value :=
  match t, x with
  | some .string, .string ⟨⟨s⟩⟩ => some (.int .i64 (Int.ofNat s.length))
  | some (.slice _), .slice _ n _ => some (.int .i64 (Int.ofNat n))
  | some (.map _ _), .map none => some (.int .i64 (Int.ofNat 0))
  | some (.map _ _), .map (some b) => match h.get b with
    | some (.map es _) => some (.int .i64 (Int.ofNat es.length))
    | _ => none
  | _, _ => none
theorem alen_sound {h : Heap} {w : World} (hr : HR ι h w.heap) {argTypes : Array TypeId} {args' : Array Value} {ty t : TypeId} {x x' v : Value} (h0 : argTypes[0]? = some t) (a0 : args'[0]? = some x') (hx : VR ι x x')
    (hs : alen (P.underlying t) x h = some v) : (Builtin.len_ argTypes ty args').run P w = .ok v w ∧ flat v = true := by
  unfold alen at hs
  split at hs
  · rename_i s hu
    cases hs; cases hx
    refine ⟨?_, rfl⟩
    simp only [Builtin.len_, h0, a0, Sem.run_bind, run_underlying hu, Result.andThen_ok, Sem.run_pure]
    rfl
  · rename_i e base n c hu
    cases hs
    refine ⟨?_, rfl⟩
    cases hx <;> simp only [Builtin.len_, h0, a0, Sem.run_bind, run_underlying hu, Result.andThen_ok, Sem.run_pure] <;> rfl
  · rename_i k e hu
    cases hs; cases hx
    refine ⟨?_, rfl⟩
    simp only [Builtin.len_, h0, a0, Sem.run_bind, run_underlying hu, Result.andThen_ok, Sem.run_pure]
    rfl
  · rename_i k e b hu
    split at hs
    · rename_i es clock hg
      cases hs
      cases hx with
      | @map _ bi hb =>
        obtain ⟨es', hw, hmer⟩ := hr.mapAt hg hb
        refine ⟨?_, rfl⟩
        have hlen : es'.size = es.length := by rw [← hmer.length]; exact Array.length_toList.symm
        simp only [Builtin.len_, h0, a0, Sem.run_bind, run_underlying hu, Result.andThen_ok, run_getMap hw, Sem.run_pure, hlen]
        rfl
    · cases hs
  · cases hs

noncomputable def acap (t : Option TypeDesc) (x : Value) : Option Value :=
  match t, x with
  | some (.slice _), .slice none _ c => some (.int .i64 (Int.ofNat c))
  | some (.slice _), .slice (some ⟨_, _, none⟩) _ c => some (.int .i64 (Int.ofNat c))
  | _, _ => none
theorem acap_sound {w : World} {argTypes : Array TypeId} {args' : Array Value} {ty t : TypeId} {x x' v : Value} (h0 : argTypes[0]? = some t) (a0 : args'[0]? = some x') (hx : VR ι x x')
    (hs : acap (P.underlying t) x = some v) : (Builtin.cap_ argTypes ty args').run P w = .ok v w ∧ flat v = true := by
  unfold acap at hs
  split at hs
  · rename_i e n c hu
    cases hs; cases hx
    refine ⟨?_, rfl⟩
    simp only [Builtin.cap_, h0, a0, Sem.run_bind, run_underlying hu, Result.andThen_ok, Sem.run_pure]
    rfl
  · rename_i e b o n c hu
    cases hs; cases hx
    refine ⟨?_, rfl⟩
    simp only [Builtin.cap_, h0, a0, Sem.run_bind, run_underlying hu, Result.andThen_ok, Sem.run_pure]
    rfl
  · cases hs

noncomputable def abuiltin (P : Program) (o : Oper) (b : Builtin) (args : List Operand) (argTypes : List TypeId) (h : Heap) (e : Env) : AR :=
  match b, args, argTypes with
  | .len, [x], t :: _ => match opv h e x with
    | some v => match alen (P.underlying t) v h with | some r => .ok r h | none => .no
    | none => .no
  | .cap, [x], t :: _ => match opv h e x with
    | some v => match acap (P.underlying t) v with | some r => .ok r h | none => .no
    | none => .no
  | .append, [s, x], t :: t2 :: _ => match opv h e s, opv h e x with
    | some s, some x => aappend P t t2 s x h
    | _, _ => .no
  | .copy, [s, x], t :: _ => match opv h e s, opv h e x with
    | some s, some x => acopy P t s x h
    | _, _ => .no
  | .delete, [m, k], t :: _ => match opv h e m, opv h e k with
    | some m, some k => match adelete P t m k h with | some h' => .ok (.tuple ⟨[]⟩) h' | none => .no
    | _, _ => .no
  | .max, _, _ => aflat P o h e
  | .min, _, _ => aflat P o h e
  | _, _, _ => .no

theorem getArr {α : Type} {a : Array α} {x : α} {l : List α} (h : a.toList = x :: l) : a[0]? = some x := by obtain ⟨a⟩ := a; simp only at h; subst h; rfl
theorem getArr1 {α : Type} {a : Array α} {x y : α} {l : List α} (h : a.toList = x :: y :: l) : a[1]? = some y := by obtain ⟨a⟩ := a; simp only at h; subst h; rfl

theorem abuiltin_sound {h h' : Heap} {w : World} {e : Env} {a : Act} (hr : HR ι h w.heap) (he : EnvR ι e a.tmps) {o : Oper} {c : Call} {b : Builtin} {v : Value} (ho : o.op = .call c) (hc : c.callee = .builtin b)
    (hs : abuiltin P o b c.args.toList c.argTypes.toList h e = .ok v h') : OpS P ι h w (execOp a.eval o) v h' := by
  have hex : ∀ r, (builtin b c.argTypes o.type (c.args.map fun | .const _ => true | _ => false) (c.args.map a.eval)).run P w = r → (execOp a.eval o).run P w = r := by
    intro r hrr
    unfold execOp
    rw [ho]
    simp only [resolve, hc, Sem.run_bind, Sem.run_pure, Result.andThen_ok, invoke]
    exact hrr
  unfold abuiltin at hs
  split at hs
  · rename_i x t tl ha ht
    split at hs
    · rename_i v1 hv1
      split at hs
      · rename_i r hr1
        simp only [AR.ok.injEq] at hs
        obtain ⟨rfl, rfl⟩ := hs
        have hx := opv_sound hr he hv1
        obtain ⟨g1, g2⟩ := alen_sound (P := P) hr (ty := o.type) (getArr ht) (args' := c.args.map a.eval) (getArr (l := []) (by simp [ha])) hx hr1
        refine OpS.here hr (hex _ ?_) (VR.of_flat ι g2)
        simp only [builtin, Sem.run_bind, g1, Result.andThen_ok, Sem.run_pure]
      · cases hs
    · cases hs
  · rename_i x t tl ha ht
    split at hs
    · rename_i v1 hv1
      split at hs
      · rename_i r hr1
        simp only [AR.ok.injEq] at hs
        obtain ⟨rfl, rfl⟩ := hs
        have hx := opv_sound hr he hv1
        obtain ⟨g1, g2⟩ := acap_sound (P := P) (w := w) (ty := o.type) (getArr ht) (args' := c.args.map a.eval) (getArr (l := []) (by simp [ha])) hx hr1
        refine OpS.here hr (hex _ ?_) (VR.of_flat ι g2)
        simp only [builtin, Sem.run_bind, g1, Result.andThen_ok, Sem.run_pure]
      · cases hs
    · cases hs
  · rename_i s x t t2 tl ha ht
    split at hs
    · rename_i s1 x1 hs1 hx1
      obtain ⟨ι', v', w', g1, g2, g3, g4⟩ := aappend_sound (P := P) hr (ty := o.type) (args' := c.args.map a.eval) (getArr ht) (getArr1 ht) (getArr (l := [a.eval x]) (by simp [ha])) (getArr1 (l := []) (x := a.eval s) (by simp [ha])) (opv_sound hr he hs1) (opv_sound hr he hx1) hs
      refine ⟨ι', v', w', .inl (hex _ ?_), g2, g3, g4⟩
      simp only [builtin, Sem.run_bind, g1, Result.andThen_ok, Sem.run_pure]
    · cases hs
  · rename_i s x t tl ha ht
    split at hs
    · rename_i s1 x1 hs1 hx1
      obtain ⟨v', w', g1, g2, g3, g4⟩ := acopy_sound (P := P) hr (ty := o.type) (args' := c.args.map a.eval) (getArr ht) (getArr (l := [a.eval x]) (by simp [ha])) (getArr1 (l := []) (x := a.eval s) (by simp [ha])) (opv_sound hr he hs1) (opv_sound hr he hx1) hs
      refine ⟨ι, v', w', .inl (hex _ ?_), g2, g3, g4⟩
      simp only [builtin, Sem.run_bind, g1, Result.andThen_ok, Sem.run_pure]
    · cases hs
  · rename_i m k t tl ha ht
    split at hs
    · rename_i m1 k1 hm1 hk1
      split at hs
      · rename_i h1 hd
        simp only [AR.ok.injEq] at hs
        obtain ⟨rfl, rfl⟩ := hs
        obtain ⟨w', g1, g2, g3⟩ := adelete_sound (P := P) hr (ty := o.type) (args' := c.args.map a.eval) (getArr ht) (getArr (l := [a.eval k]) (by simp [ha])) (getArr1 (l := []) (x := a.eval m) (by simp [ha])) (opv_sound hr he hm1) (opv_sound hr he hk1) hd
        refine ⟨ι, _, w', .inl (hex _ ?_), .tup .nil, g2, g3⟩
        simp only [builtin, Sem.run_bind, g1, Result.andThen_ok, Sem.run_pure]
      · cases hs
    · cases hs
  · exact aflat_sound hr he hs
  · exact aflat_sound hr he hs
  · cases hs

end Go.Dx
