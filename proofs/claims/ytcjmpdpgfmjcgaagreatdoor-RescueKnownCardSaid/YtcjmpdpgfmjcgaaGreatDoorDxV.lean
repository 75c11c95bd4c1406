/- DxV: the abstract run is sound, part 5: functions: arguments, results, deferred calls, recover. -/
import Derived.Test.YtcjmpdpgfmjcgaaGreatDoorDxU
namespace Go.Dx
variable {P : Program} {V : Nat → Nat → Bool} {ι : Iota}

theorem args0_sound {fr : Fr} {tmps : Array Value} : ∀ (l : List Value) (i : Nat) (e : Env), EnvR ι e tmps → EI V fr.fn e → (∀ j v, l[j]? = some v → ∃ v', tmps[i + j]? = some v' ∧ VR ι v v') →
    EnvR ι (args0 V fr i l e) tmps ∧ EI V fr.fn (args0 V fr i l e) := by
  intro l
  induction l with
  | nil => intro i e he hi _; exact ⟨he, hi⟩
  | cons x l ih =>
    intro i e he hi h
    refine ih (i + 1) _ ?_ (hi.putE i x) (fun j v hv => ?_)
    · intro t v hv
      rw [lk_putE hi] at hv
      by_cases e1 : i = t
      · subst e1
        simp at hv; subst hv
        exact h 0 x rfl
      · simp [e1] at hv
        exact he t v hv
    · have := h (j + 1) v (by simpa using hv)
      rw [show i + 1 + j = i + (j + 1) by omega]; exact this

theorem frame0 {fr : Fr} {args : List Value} {args' : Array Value} (hv : VRL ι args args'.toList) (hle : args.length ≤ fr.nt) :
    FR V fr ι (args0 V fr 0 args ⟨[], []⟩) [] { tmps := args' ++ Array.replicate (fr.nt - args'.size) undef, defers := [] } := by
  have hl := hv.length
  simp only [Array.length_toList] at hl
  have := args0_sound (V := V) (fr := fr) (tmps := args' ++ Array.replicate (fr.nt - args'.size) undef) args 0 ⟨[], []⟩ (EnvR.nil _ _) ⟨(fun p hp => nomatch hp), (fun p hp => nomatch hp)⟩ (fun j v hj => by
    obtain ⟨v', h1, h2⟩ := hv.get j v hj
    refine ⟨v', ?_, h2⟩
    have hlt : j < args'.size := by have := (List.getElem?_eq_some_iff.1 h1).1; simpa using this
    rw [Nat.zero_add, Array.getElem?_append_left hlt]
    simpa using h1)
  exact ⟨this.1, this.2, by simp; omega, .nil⟩

/-! ### results -/
theorem resOf_sound {h : Heap} {w : World} {e : Env} {tmps : Array Value} (hr : HR ι h w.heap) (he : EnvR ι e tmps) {r : ResultVar} {v : Value} (hs : resOf P h e r = some v) :
    ∃ v', (match r with | .tmp t => pure (tmps.getD t undef) | .cell a t => do loadVar t (← asAddr (tmps.getD a undef)) : Sem Value).run P w = .ok v' w ∧ VR ι v v' := by
  unfold resOf at hs
  split at hs
  · rename_i t
    obtain ⟨v', h1, h2⟩ := he t v hs
    refine ⟨v', ?_, h2⟩
    simp [h1]
  · rename_i ad t
    split at hs
    · rename_i p hp
      obtain ⟨p', h1, h2⟩ := he ad p hp
      obtain ⟨v', g1, g2⟩ := aload_sound (P := P) hr h2 hs
      refine ⟨v', ?_, g2⟩
      unfold aload at hs
      split at hs
      · cases h2 with
        | ptr hb =>
          simp only [Instr.loadAt, Instr.sureAddr, Sem.run_bind, Sem.run_pure, Result.andThen_ok] at g1
          simp only [Array.getD_eq_getD_getElem?, h1, Option.getD_some, asAddr, Sem.run_bind, Sem.run_pure, Result.andThen_ok]
          exact g1
      · cases hs
    · cases hs

theorem resL_sound {h : Heap} {w : World} {e : Env} {tmps : Array Value} (hr : HR ι h w.heap) (he : EnvR ι e tmps) : ∀ {l : List ResultVar} {vs : List Value}, resL P h e l = some vs →
    ∃ vs', (l.mapM (m := Sem) fun | .tmp t => pure (tmps.getD t undef) | .cell a t => do loadVar t (← asAddr (tmps.getD a undef))).run P w = .ok vs' w ∧ VRL ι vs vs' := by
  intro l
  induction l with
  | nil => intro vs hs; cases hs; exact ⟨[], by simp, .nil⟩
  | cons r l ih =>
    intro vs hs
    simp only [resL] at hs
    split at hs
    · rename_i v vs1 h1 h2
      cases hs
      obtain ⟨v', a1, a2⟩ := resOf_sound (P := P) hr he h1
      obtain ⟨vs', b1, b2⟩ := ih h2
      refine ⟨v' :: vs', ?_, .cons a2 b2⟩
      simp only [List.mapM_cons, Sem.run_bind, a1, Result.andThen_ok, b1, Sem.run_pure]
    · cases hs

theorem packL_eq (vs : List Value) : packL vs = (if h : vs.toArray.size = 1 then vs.toArray[0] else .tuple vs.toArray) := by
  match vs with
  | [] => rfl
  | [v] => rfl
  | v :: w :: l => simp [packL]

theorem results_sound {fn : Func} {h : Heap} {w : World} {e : Env} {tmps : Array Value} (hr : HR ι h w.heap) (he : EnvR ι e tmps) {vs : List Value} (hs : resL P h e fn.results.toList = some vs) :
    ∃ v', (results fn tmps).run P w = .ok v' w ∧ VR ι (packL vs) v' := by
  obtain ⟨vs', h1, h2⟩ := resL_sound (P := P) hr he hs
  refine ⟨packL vs', ?_, ?_⟩
  · unfold results
    rw [Array.mapM_eq_mapM_toList, Sem.run_bind, Sem.run_map]
    refine (congrArg (fun r => (Result.andThen r _).andThen _) h1).trans ?_
    simp only [Result.andThen_ok, Sem.run_pure]
    rw [packL_eq]
  · match h2 with
    | .nil => exact .tup .nil
    | .cons a .nil => exact a
    | .cons a (.cons b c) => exact .tup (.cons a (.cons b c))

/-! ### recover -/
/-- What a deferred function can recover, and the mode of the frame below it. -/
inductive RCR (ι : Iota) : RC → FrameMode → Prop where
  | none : RCR ι .none .returning
  | some {v v' : Value} : VR ι v v' → RCR ι (.some v) (.panicking [{ v := v', recovered := false }])
  | done (v' : Value) : RCR ι .done (.panicking [{ v := v', recovered := true }])
theorem RCR.mono {ι' : Iota} (hs : Sub ι ι') {rc : RC} {u : FrameMode} (h : RCR ι rc u) : RCR ι' rc u := by
  cases h with
  | none => exact .none
  | some h => exact .some (h.mono hs)
  | done v => exact .done v

def PostS (V : Nat → Nat → Bool) (fr : Fr) (ι : Iota) (h : Heap) (w : World) (c0 : Frame) (cs0 : List Frame) (x : AExit) (e' : Env) (rc' : RC) (h' : Heap) : Exit → Act → List Frame → World → Prop := fun ex a' cs' w' =>
  ∃ ι' u', cs' = { c0 with mode := u' } :: cs0 ∧ RCR ι' rc' u' ∧ Adv ι h w ι' h' w' ∧ HR ι' h' w'.heap ∧ FR V fr ι' e' [] a' ∧ XR ι' x ex

theorem evOpsS_cons (fr : Fr) (ops : List Oper) (o : Oper) (l : List Oper) (e : Env) (rc : RC) (h : Heap) : evOpsS P V fr ops (o :: l) e rc h =
      match gd ops o e with
      | some true =>
        @Bool.casesOn (fun _ => Option (Env × RC × Heap)) (isRecover o.op)
          (match finA V fr o (aop P o h e) e [] with
           | .ok .normal e [] h => evOpsS P V fr ops l e rc h
           | _ => none)
          (match evRec V fr o e rc with
           | some (e, rc) => evOpsS P V fr ops l e rc h
           | none => none)
      | some false => match put V fr o (.tuple ⟨[]⟩) e with
        | some e => evOpsS P V fr ops l e rc h
        | none => none
      | none => none := rfl

theorem evOpsS_sound {fr : Fr} {ops : Array Oper} {ι0 : Iota} {h0 : Heap} {w0 : World} {c0 : Frame} {cs0 : List Frame} {e' : Env} {rc' : RC} {h' : Heap} : ∀ (l : List Oper) (k : Nat), ops.toList.drop k = l →
    ∀ (e : Env) (rc : RC) (h : Heap) (ι : Iota) (w : World) (a : Act) (u : FrameMode), evOpsS P V fr ops.toList l e rc h = some (e', rc', h') → HR ι h w.heap → FR V fr ι e [] a → RCR ι rc u →
    Adv ι0 h0 w0 ι h w → wpOpsS P ops (PostS V fr ι0 h0 w0 c0 cs0 .normal e' rc' h') (List.range' k l.length) a ({ c0 with mode := u } :: cs0) w := by
  intro l
  induction l with
  | nil =>
    intro k hk e rc h ι w a u hs hr hf hc ha
    simp only [evOpsS, Option.some.injEq, Prod.mk.injEq] at hs
    obtain ⟨rfl, rfl, rfl⟩ := hs
    exact ⟨ι, u, rfl, hc, ha, hr, hf, .normal⟩
  | cons o l ih =>
    intro k hk e rc h ι w a u hs hr hf hc ha
    have ho : ops[k]? = some o := by
      have : ops.toList[k]? = some o := by
        have h1 : (ops.toList.drop k)[0]? = some o := by rw [hk]; rfl
        rw [List.getElem?_drop] at h1; simpa using h1
      simpa using this
    have hk' : ops.toList.drop (k + 1) = l := by
      have : (ops.toList.drop k).drop 1 = l := by rw [hk]; rfl
      rw [List.drop_drop] at this; exact this
    rw [List.length_cons, List.range'_succ]
    rw [evOpsS_cons] at hs
    simp only [wpOpsS, ho]
    split at hs
    · rename_i hg
      rw [gd_sound hf hg]
      simp only [if_true]
      cases hrec : isRecover o.op
      · rw [hrec] at hs
        simp only at hs
        split at hs
        · rename_i e1 h1 hfa
          unfold finA at hfa
          split at hfa
          · rename_i v h2 hop
            obtain ⟨ι', v', w', hrun, hv, hr', ha'⟩ := aop_sound (P := P) hr hf.env hop
            unfold fin at hfa
            split at hfa
            · rename_i e2 hp
              simp only [CR.ok.injEq, true_and] at hfa
              obtain ⟨rfl, rfl⟩ := hfa
              have hf' := (hf.mono ha'.sub).put hv hp
              rcases hrun with hrun | ⟨hrun, rfl⟩
              · rw [hrun]
                exact ih (k + 1) hk' _ rc _ ι' w' _ u hs hr' hf' (hc.mono ha'.sub) (ha.trans ha')
              · rw [hrun]
                exact ih (k + 1) hk' _ rc _ ι' w' _ u hs hr' hf' (hc.mono ha'.sub) (ha.trans ha')
            · cases hfa
          · cases hfa
        · cases hs
      · rw [hrec] at hs
        simp only at hs
        have hrun : (execOp a.eval o).run P w = .ok .recover w := by
          unfold isRecover at hrec
          split at hrec
          · rename_i c hcop
            split at hrec
            · rename_i hcal
              unfold execOp
              rw [hcop]
              simp only [resolve, hcal, Sem.run_bind, Sem.run_pure, Result.andThen_ok, invoke, builtin]
            · cases hrec
          · cases hrec
        rw [hrun]
        simp only
        unfold evRec at hs
        cases hc with
        | none =>
          simp only at hs
          split at hs
          · rename_i e1 rc1 hp0
            split at hp0
            · rename_i e2 hp
              cases hp0
              simp only [recoverD]
              exact ih (k + 1) hk' _ _ _ ι w _ _ hs hr (hf.put .nilIface hp) .none ha
            · cases hp0
          · cases hs
        | some hv =>
          rename_i v v'
          simp only at hs
          split at hs
          · rename_i e1 rc1 hp0
            split at hp0
            · rename_i e2 hp
              cases hp0
              simp only [recoverD]
              exact ih (k + 1) hk' _ _ _ ι w _ _ hs hr (hf.put hv hp) (.done v') ha
            · cases hp0
          · cases hs
        | done v' =>
          simp only at hs
          split at hs
          · rename_i e1 rc1 hp0
            split at hp0
            · rename_i e2 hp
              cases hp0
              simp only [recoverD]
              exact ih (k + 1) hk' _ _ _ ι w _ _ hs hr (hf.put .nilIface hp) (.done v') ha
            · cases hp0
          · cases hs
    · rename_i hg
      rw [gd_sound hf hg]
      simp only [Bool.false_eq_true, if_false]
      split at hs
      · rename_i e1 hp
        exact ih (k + 1) hk' _ _ _ ι w _ u hs hr (hf.put (.tup .nil) hp) hc ha
      · cases hs
    · cases hs

theorem wpS_code {ev : Ev} (hev : EvOK P V ev) {fr : Fr} (hrd : fr.rd = none) {c : Code} {e : Env} {h : Heap} {x : AExit} {e' : Env} {h' : Heap} (hs : ev.code fr c e [] h = .ok x e' [] h') {ι0 : Iota} {h0 : Heap} {w0 w : World} {a : Act} {c0 : Frame} {cs0 : List Frame} {rc : RC} {u : FrameMode}
    (hr : HR ι h w.heap) (hf : FR V fr ι e [] a) (hc : RCR ι rc u) (ha : Adv ι0 h0 w0 ι h w) : c.wpS P (PostS V fr ι0 h0 w0 c0 cs0 x e' rc h') a ({ c0 with mode := u } :: cs0) w := by
  have hF : FenR ι fr.rd Fence.wide := by rw [hrd]; rfl
  refine wpS_of_wp (wpIn_wide.1 (wpIn_mono (hev.code hs hr hf hF) ?_))
  rintro ex a1 w1 ⟨ι1, ad, hr1, hf1, hx⟩
  exact ⟨ι1, u, rfl, hc.mono ad.sub, ha.trans ad, hr1, hf1, hx⟩

theorem evS_sound {ev : Ev} (hev : EvOK P V ev) {fr : Fr} (hrd : fr.rd = none) {ι0 : Iota} {h0 : Heap} {w0 : World} {c0 : Frame} {cs0 : List Frame} : ∀ (c : Code) (e : Env) (rc : RC) (h : Heap) (x : AExit) (e' : Env) (rc' : RC) (h' : Heap) (ι : Iota) (w : World) (a : Act) (u : FrameMode),
    evS P V ev fr c e rc h = some (x, e', rc', h') → HR ι h w.heap → FR V fr ι e [] a → RCR ι rc u → Adv ι0 h0 w0 ι h w → c.wpS P (PostS V fr ι0 h0 w0 c0 cs0 x e' rc' h') a ({ c0 with mode := u } :: cs0) w := by
  have gen : ∀ (c : Code) (e : Env) (rc : RC) (h : Heap) (x : AExit) (e' : Env) (rc' : RC) (h' : Heap) (ι : Iota) (w : World) (a : Act) (u : FrameMode),
      (match ev.code fr c e [] h with | .ok x e [] h => some (x, e, rc, h) | _ => none) = some (x, e', rc', h') → HR ι h w.heap → FR V fr ι e [] a → RCR ι rc u → Adv ι0 h0 w0 ι h w →
      c.wpS P (PostS V fr ι0 h0 w0 c0 cs0 x e' rc' h') a ({ c0 with mode := u } :: cs0) w := by
    intro c e rc h x e' rc' h' ι w a u hs hr hf hc ha
    split at hs
    · rename_i x1 e1 h1 hcode
      simp only [Option.some.injEq, Prod.mk.injEq] at hs
      obtain ⟨rfl, rfl, rfl, rfl⟩ := hs
      exact wpS_code hev hrd hcode hr hf hc ha
    · cases hs
  intro c
  induction c with
  | seq c1 c2 ih1 ih2 =>
    intro e rc h x e' rc' h' ι w a u hs hr hf hc ha
    simp only [evS] at hs
    refine wpS_seq ?_
    split at hs
    · rename_i e1 rc1 h1 hs1
      have := ih1 e rc h .normal e1 rc1 h1 ι w a u hs1 hr hf hc ha
      intro b k hb hro
      obtain ⟨ex, a1, cs1, w1, ⟨ι1, u1, rfl, hc1, ad1, hr1, hf1, hx1⟩, harr⟩ := this b k hb hro
      cases hx1
      exact ⟨.normal, a1, _, w1, ih2 e1 rc1 h1 x e' rc' h' ι1 w1 a1 u1 hs hr1 hf1 hc1 ad1, harr⟩
    · rename_i hne
      have := ih1 e rc h x e' rc' h' ι w a u hs hr hf hc ha
      intro b k hb hro
      obtain ⟨ex, a1, cs1, w1, hq, harr⟩ := this b k hb hro
      refine ⟨ex, a1, cs1, w1, ?_, harr⟩
      have hq0 := hq
      obtain ⟨ι1, u1, _, _, _, _, _, hx1⟩ := hq
      cases hx1 with
      | normal => exact absurd hs (hne _ _ _)
      | exit id => exact hq0
      | goto l => exact hq0
      | ret => exact hq0
      | pan hv => exact hq0
  | cond c1 c2 c3 ih1 ih2 =>
    intro e rc h x e' rc' h' ι w a u hs hr hf hc ha
    simp only [evS] at hs
    split at hs
    · rename_i hq
      have hv := (opv_sound hr hf.env hq).flat_eq rfl
      exact wpS_cond (t := true) hv (ih1 e rc h x e' rc' h' ι w a u hs hr hf hc ha)
    · rename_i hq
      have hv := (opv_sound hr hf.env hq).flat_eq rfl
      exact wpS_cond (t := false) hv (ih2 e rc h x e' rc' h' ι w a u hs hr hf hc ha)
    · cases hs
  | region i ops draw =>
    intro e rc h x e' rc' h' ι w a u hs hr hf hc ha
    cases draw with
    | false =>
      simp only [evS] at hs
      cases hany : ops.toList.any fun o => isRecover o.op
      · rw [hany] at hs
        exact gen _ e rc h x e' rc' h' ι w a u hs hr hf hc ha
      · rw [hany] at hs
        simp only at hs
        split at hs
        · rename_i e1 rc1 h1 hops
          simp only [Option.some.injEq, Prod.mk.injEq] at hs
          obtain ⟨rfl, rfl, rfl, rfl⟩ := hs
          refine wpS_region ?_
          have := evOpsS_sound (P := P) (V := V) (c0 := c0) (cs0 := cs0) ops.toList 0 rfl _ rc h ι w a u hops hr hf.clear hc ha
          rw [List.range_eq_range']
          simpa using this
        · cases hs
    | true => exact gen _ e rc h x e' rc' h' ι w a u hs hr hf hc ha
  | _ =>
    intro e rc h x e' rc' h' ι w a u hs hr hf hc ha
    exact gen _ e rc h x e' rc' h' ι w a u hs hr hf hc ha

end Go.Dx
