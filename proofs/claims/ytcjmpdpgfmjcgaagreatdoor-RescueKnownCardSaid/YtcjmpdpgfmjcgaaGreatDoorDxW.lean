/- DxW: the abstract run is sound, part 6: how a function leaves; calls; code. -/
import Derived.Test.YtcjmpdpgfmjcgaaGreatDoorDxV
namespace Go.Dx
variable {P : Program} {V : Nat → Nat → Bool} {ι : Iota}

theorem wpS_mono {c : Code} {Q Q' : Exit → Act → List Frame → World → Prop} {a : Act} {cs : List Frame} {w : World} (h : c.wpS P Q a cs w) (hq : ∀ e a cs w, Q e a cs w → Q' e a cs w) : c.wpS P Q' a cs w :=
  fun b k hb hr => let ⟨e, a', cs', w', q, r⟩ := h b k hb hr; ⟨e, a', cs', w', hq _ _ _ _ q, r⟩

theorem callsDIn_of_wpS {n : Nat} {f : FuncId} {fn : Func} {c : Code} {args : Array Value} {u : FrameMode} {w : World} {R : Ending → FrameMode → World → Prop}
    (hf : P.funcs[f]? = some fn) (hb : fn.body = some c)
    (h : ∀ (c₀ : Frame) (cs : List Frame), c₀.mode = u →
      c.wpS P (bodyPostS P fn c₀ cs R) { tmps := args ++ Array.replicate (fn.ntmps - args.size) undef, defers := [] } (c₀ :: cs) w) :
    CallsDIn Fence.wide n P f args u w R := by
  refine ⟨trivial, fun c₀ cs hu _ => ?_⟩
  let b : Frame := { (default : Frame) with fn := f, kind := .deferred }
  have henter : Frame.enter P f args .deferred =
      b.at { tmps := args ++ Array.replicate (fn.ntmps - args.size) undef, defers := [] } [.code c] := by
    simp [Frame.enter, Frame.at, hf, hb, b]
  obtain ⟨e, a', cs', w', hq, harr⟩ := h c₀ cs hu b [] rfl rfl
  rw [← henter] at harr
  cases e with
  | normal =>
    obtain ⟨hd, u', rfl, v, hr, hR⟩ := hq
    exact ⟨.returned v, u', w', _, hR, comesIn_wide.2 (Steps.trans harr (.one step_end)), rfl, rfl, rfl, hd, fn, hf, hr⟩
  | ret =>
    obtain ⟨hd, u', rfl, v, hr, hR⟩ := hq
    obtain ⟨todo, hs⟩ := harr
    exact ⟨.returned v, u', w', _, hR, comesIn_wide.2 hs, rfl, rfl, rfl, hd, fn, hf, hr⟩
  | panic chain =>
    obtain ⟨hd, u', rfl, hR⟩ := hq
    obtain ⟨todo, hs⟩ := harr
    exact ⟨.panicked chain, u', w', _, hR, comesIn_wide.2 hs, rfl, rfl, rfl, hd, fn, hf⟩
  | exit id => exact hq.elim
  | goto l => exact hq.elim
  | outgrown =>
    obtain ⟨u', hR⟩ := hq
    exact ⟨.outgrown, u', w', b, hR, comesIn_wide.2 (harr.resolve_left (by simp [b])), rfl, rfl, trivial⟩

/-- A block that is spoken of no more, and changes. -/
theorem HR.drop {h : Heap} {w : World} (hr : HR ι h w.heap) {b : Nat} {o : AO} {bi : BI} (hg : h.get b = some o) (hi : ι b = some bi) (o' : Obj) (hu : unfz o') :
    HR ι (h.del b) (w.heap.setIfInBounds bi.blk o') ∧ Adv ι h w ι (h.del b) { w with heap := w.heap.setIfInBounds bi.blk o' } := by
  obtain ⟨hd, ad⟩ := hr.del b
  have hne : ∀ c x bi', (h.del b).get c = some x → ι c = some bi' → bi.blk ≠ bi'.blk := by
    intro c x bi' hx hi' he
    have hcb : c ≠ b := by
      intro e; subst e; rw [Heap.get_del_same] at hx; cases hx
    rw [Heap.get_del_other hcb] at hx
    exact hcb (hr.inj b c o x bi bi' hg hx hi hi' he).symm
  refine ⟨⟨?_, hd.inj, hd.fresh, hd.glo, hd.gn⟩, ⟨ad.sub, by simp, ?_, ad.dm, ad.nx, ad.old, ad.gl, rfl, rfl, ?_⟩⟩
  · intro c x hx
    obtain ⟨bi', x', h1, h2, h3⟩ := hd.obj c x hx
    exact ⟨bi', x', h1, by rw [Array.getElem?_setIfInBounds_ne (hne c x bi' hx h1)]; exact h2, h3⟩
  · intro c hc hn
    have : bi.blk ≠ c := fun he => hn ⟨b, o, bi, hg, hi, he⟩
    rw [Array.getElem?_setIfInBounds_ne this]
  · intro c hc x hx
    by_cases e : bi.blk = c
    · subst e
      have hlt := hr.blk_lt ⟨b, o, bi, hg, hi, rfl⟩
      simp [hlt] at hx; subst hx; exact hu
    · simp only [Array.getElem?_setIfInBounds_ne e] at hx; exact hc x hx

def rest : RC → RC
  | .done => .none
  | r => r
theorem RCR.settle {rc : RC} {u : FrameMode} (h : RCR ι rc u) : RCR ι (rest rc) (settle u) := by
  cases h with
  | none => exact .none
  | some h => exact .some h
  | done v => exact .none
theorem rest_ne (rc : RC) : rest rc ≠ .done := by cases rc <;> simp [rest]

theorem leave_sound {ev : Ev} (hev : EvOK P V ev) {fn : Func} {e : Env} {tmps : Array Value} {ι0 : Iota} {h0 : Heap} {w0 : World} {r : VS} (hne : r ≠ .no) :
    ∀ (ds : List ADef) (rc : RC) (h : Heap) (ι : Iota) (w : World) (l : List Deferred) (u : FrameMode), leave P V ev fn e ds rc h = r → rc ≠ .done → HR ι h w.heap → EnvR ι e tmps → DR ι ds l → RCR ι rc u →
      Adv ι0 h0 w0 ι h w → LeavesInM Fence.wide 0 P fn tmps (PostV ι0 h0 w0 r) l u w := by
  intro ds
  induction ds with
  | nil =>
    intro rc h ι w l u hs hrc hr he hd hc ha
    cases hd
    cases hc with
    | done => exact absurd rfl hrc
    | some hv =>
      simp only [leave] at hs
      subst hs
      exact ⟨ι, _, rfl, hv, hr, ha⟩
    | none =>
      simp only [leave] at hs
      split at hs
      · rename_i vs hvs
        subst hs
        obtain ⟨v', h1, h2⟩ := results_sound (P := P) (fn := fn) hr he hvs
        exact ⟨v', h1, ι, v', rfl, h2, hr, ha⟩
      · exact absurd hs.symm hne
  | cons d ds ih =>
    intro rc h ι w l u hs hrc hr he hd hc ha
    have hu : u ≠ .run := by cases hc <;> simp
    cases hd with
    | coll hi hd =>
      rename_i rr bi l
      refine ⟨hu, .inl ?_⟩
      simp only [leave] at hs
      split at hs
      case h_2 => exact absurd hs.symm hne
      rename_i hg
      obtain ⟨bi', o', i1, i2, i3⟩ := hr.obj _ _ hg
      rw [hi] at i1; cases i1
      have ho : o' = .deferred (some []) := by
        cases o' with
        | deferred x => cases x with
          | none => simp only [OR] at i3
          | some l => cases l with
            | nil => rfl
            | cons => simp only [OR] at i3
        | _ => simp only [OR] at i3
      subst ho
      obtain ⟨hr2, ad2⟩ := hr.drop hg hi (.deferred none) trivial
      refine ⟨bi.blk, { w with heap := w.heap.setIfInBounds bi.blk (.deferred none) }, rfl, ?_, ih rc _ ι _ l u hs hrc hr2 he hd hc (ha.trans ad2)⟩
      simp [Instr.takeDeferred, getObj, setObj, Sem.run, i2]
    | fn f hargs hcap hd =>
      rename_i args cap args' cap' l
      refine ⟨hu, .inr ⟨(fun hd => by cases hd), ?_⟩⟩
      simp only [leave] at hs
      split at hs
      case h_2 => exact absurd hs.symm hne
      rename_i g hg
      split at hs
      case h_2 => exact absurd hs.symm hne
      rename_i c hbody
      cases hb : (bodied P f && Nat.ble (args ++ cap).length g.ntmps)
      · rw [hb] at hs; exact absurd hs.symm hne
      rw [hb] at hs
      simp only [Bool.and_eq_true] at hb
      simp only at hs
      refine ⟨_, _, f, args' ++ cap', rfl, ?_, fun _ _ => trivial, ?_⟩
      · simp only [invoke]
        exact run_callFunc hb.1 _ _
      have hva : VRL ι (args ++ cap) (args' ++ cap').toList := by
        have : (args' ++ cap').toList = args'.toList ++ cap'.toList := by simp
        rw [this]; exact hargs.append hcap
      have hf0 := frame0 (V := V) (fr := ⟨f, g.ntmps, none⟩) hva (Nat.le_of_ble_eq_true hb.2)
      refine callsDIn_of_wpS hg hbody fun c₀ cs hcu => ?_
      have hcc : c₀ = { c₀ with mode := u } := by rw [← hcu]
      have key : ∀ x e1 rc' h', evS P V ev ⟨f, g.ntmps, none⟩ c (args0 V ⟨f, g.ntmps, none⟩ 0 (args ++ cap) ⟨[], []⟩) rc h = some (x, e1, rc', h') → (x = .normal ∨ x = .ret) →
          (match resL P h' e1 g.results.toList with
           | some _ => leave P V ev fn e ds (match rc' with | .done => .none | r => r) h'
           | none => .no) = r →
          c.wpS P (bodyPostS P g c₀ cs fun
          | .returned _, u', w' => LeavesInM Fence.wide 0 P fn tmps (PostV ι0 h0 w0 r) l (Go.settle u') w'
          | .panicked chain, u', w' => LeavesInM Fence.wide 0 P fn tmps (PostV ι0 h0 w0 r) l (raised u' chain) w'
          | .outgrown, _, w' => PostV ι0 h0 w0 r .outgrown w') { tmps := (args' ++ cap') ++ Array.replicate (g.ntmps - (args' ++ cap').size) undef, defers := [] } (c₀ :: cs) w := by
        intro x e1 rc' h' hevs hx hs
        have := evS_sound hev (fr := ⟨f, g.ntmps, none⟩) rfl (c0 := c₀) (cs0 := cs) c _ rc h x e1 rc' h' ι w _ u hevs hr hf0 hc (.refl _ _ _)
        rw [← hcc] at this
        refine wpS_mono this ?_
        rintro ex a1 cs1 w1 ⟨ι1, u1, rfl, hc1, ad1, hr1, hf1, hx1⟩
        have hdn : a1.defers = [] := by have := hf1.df; generalize a1.defers = q at this; cases this; rfl
        split at hs
        case h_2 => exact absurd hs.symm hne
        rename_i vs hvs
        obtain ⟨v', h1, h2⟩ := results_sound (P := P) (fn := g) hr1 hf1.env hvs
        have hsub : Sub ι ι1 := ad1.sub
        have hl := ih (rest rc') h' ι1 w1 l (Go.settle u1) (by cases rc' <;> exact hs) (rest_ne _) hr1 (he.mono hsub) (hd.mono hsub) hc1.settle (ha.trans ad1)
        rcases hx with rfl | rfl
        · cases hx1; exact ⟨hdn, u1, rfl, v', h1, hl⟩
        · cases hx1; exact ⟨hdn, u1, rfl, v', h1, hl⟩
      split at hs
      · rename_i e1 rc' h' hevs
        exact key _ e1 rc' h' hevs (.inl rfl) hs
      · rename_i e1 rc' h' hevs
        exact key _ e1 rc' h' hevs (.inr rfl) hs
      · exact absurd hs.symm hne

theorem evCall_sound {ev : Ev} (hev : EvOK P V ev) {g : FuncId} {args : List Value} {h : Heap} {r : VS} (hs : evCall P V ev g args h = r) (hne : r ≠ .no) {w : World} {args' : Array Value} (hr : HR ι h w.heap) (hv : VRL ι args args'.toList) :
    Calls P g args' w (PostV ι h w r) := by
  unfold evCall at hs
  split at hs
  case h_2 => exact absurd hs.symm hne
  rename_i fn hfn
  split at hs
  case h_2 => exact absurd hs.symm hne
  rename_i c hbody
  cases hb : Nat.ble args.length fn.ntmps
  · rw [hb] at hs; exact absurd hs.symm hne
  rw [hb] at hs
  simp only at hs
  have hf0 := frame0 (V := V) (fr := ⟨g, fn.ntmps, none⟩) hv (Nat.le_of_ble_eq_true hb)
  refine callsIn_wide.1 (callsIn_of_wp_marks (F := Fence.wide) (n := 0) hfn hbody trivial ?_)
  split at hs
  · rename_i e ds h1 hc
    refine wpIn_mono (hev.code hc hr hf0 rfl) ?_
    rintro ex a1 w1 ⟨ι1, ad, hr1, hf1, hx⟩
    cases hx
    exact leave_sound hev hne ds .none h1 ι1 w1 _ _ hs (by simp) hr1 hf1.env hf1.df .none ad
  · rename_i e ds h1 hc
    refine wpIn_mono (hev.code hc hr hf0 rfl) ?_
    rintro ex a1 w1 ⟨ι1, ad, hr1, hf1, hx⟩
    cases hx
    exact leave_sound hev hne ds .none h1 ι1 w1 _ _ hs (by simp) hr1 hf1.env hf1.df .none ad
  · rename_i v e ds h1 hc
    refine wpIn_mono (hev.code hc hr hf0 rfl) ?_
    rintro ex a1 w1 ⟨ι1, ad, hr1, hf1, hx⟩
    cases hx with
    | pan hv => exact leave_sound hev hne ds (.some v) h1 ι1 w1 _ _ hs (by simp) hr1 hf1.env hf1.df (.some hv) ad
  · exact absurd hs.symm hne

theorem evCode_sound {ev : Ev} (hev : EvOK P V ev)
    (hdraw : ∀ {fr : Fr} {ops : Array Oper} {e : Env} {ds : List ADef} {h : Heap} {x : AExit} {e' : Env} {ds' : List ADef} {h' : Heap}, drawOk ops = true → evDraw P V ev fr ops (phases (ixs ops.toList)) [] e ds h = .ok x e' ds' h' →
      ∀ {ι : Iota} {w : World} {a : Act} {F : Fence} (id : Nat), HR ι h w.heap → FR V fr ι e ds a → FenR ι fr.rd F → (Code.region id ops true).wpIn F 0 P (PostC V fr ι h w x e' ds' h') a w)
    {fr : Fr} {c : Code} {e : Env} {ds : List ADef} {h : Heap} {x : AExit} {e' : Env} {ds' : List ADef} {h' : Heap} (hs : evCode P V ev fr c e ds h = .ok x e' ds' h')
    {w : World} {a : Act} {F : Fence} (hr : HR ι h w.heap) (hf : FR V fr ι e ds a) (hF : FenR ι fr.rd F) : c.wpIn F 0 P (PostC V fr ι h w x e' ds' h') a w := by
  cases c with
  | skip =>
    simp only [evCode, CR.ok.injEq] at hs
    obtain ⟨rfl, rfl, rfl, rfl⟩ := hs
    exact wpIn_skip ⟨ι, .refl _ _ _, hr, hf, .normal⟩
  | label l =>
    simp only [evCode, CR.ok.injEq] at hs
    obtain ⟨rfl, rfl, rfl, rfl⟩ := hs
    exact wpIn_label ⟨ι, .refl _ _ _, hr, hf, .normal⟩
  | exit id =>
    simp only [evCode, CR.ok.injEq] at hs
    obtain ⟨rfl, rfl, rfl, rfl⟩ := hs
    exact wpIn_exit ⟨ι, .refl _ _ _, hr, hf, .exit id⟩
  | goto l =>
    simp only [evCode, CR.ok.injEq] at hs
    obtain ⟨rfl, rfl, rfl, rfl⟩ := hs
    exact wpIn_goto ⟨ι, .refl _ _ _, hr, hf, .goto l⟩
  | ret =>
    simp only [evCode, CR.ok.injEq] at hs
    obtain ⟨rfl, rfl, rfl, rfl⟩ := hs
    exact wpIn_ret ⟨ι, .refl _ _ _, hr, hf, .ret⟩
  | region id ops draw =>
    cases draw with
    | false =>
      simp only [evCode] at hs
      refine wpIn_region ?_
      have := evOps_sound (ops := ops) hev (F := F) ops.toList 0 rfl _ ds h ι w a hs hr hf.clear hF (.refl _ _ _)
      rw [List.range_eq_range']
      simpa using this
    | true =>
      simp only [evCode] at hs
      cases hd : drawOk ops
      · rw [hd] at hs; cases hs
      rw [hd] at hs
      exact hdraw hd hs id hr hf.clear hF
  | seq c1 c2 =>
    simp only [evCode] at hs
    refine wpIn_seq ?_
    split at hs
    · rename_i e1 ds1 h1 hc1
      refine wpIn_mono (hev.code hc1 hr hf hF) ?_
      rintro ex a1 w1 ⟨ι1, ad, hr1, hf1, hx⟩
      cases hx
      refine wpIn_mono (hev.code hs hr1 hf1 (hF.mono ad.sub)) ?_
      intro ex2 a2 w2 hp
      exact hp.trans ad
    · rename_i hne
      refine wpIn_mono (hev.code hs hr hf hF) ?_
      intro ex a1 w1 hp
      exact PostC.then (fun hx => by subst hx; exact hne _ _ _ hs) (.refl _ _ _) hp
  | cond c1 c2 c3 =>
    simp only [evCode] at hs
    split at hs
    · rename_i hq
      exact wpIn_cond (t := true) ((opv_sound hr hf.env hq).flat_eq rfl) (hev.code hs hr hf hF)
    · rename_i hq
      exact wpIn_cond (t := false) ((opv_sound hr hf.env hq).flat_eq rfl) (hev.code hs hr hf hF)
    · cases hs
  | block id b =>
    simp only [evCode] at hs
    refine wpIn_block ?_
    split at hs
    · rename_i j e1 ds1 h1 hc1
      refine wpIn_mono (hev.code hc1 hr hf hF) ?_
      rintro ex a1 w1 ⟨ι1, ad, hr1, hf1, hx⟩
      cases hx
      cases hj : Nat.beq j id
      · rw [hj] at hs
        simp only [CR.ok.injEq] at hs
        obtain ⟨rfl, rfl, rfl, rfl⟩ := hs
        have : j ≠ id := fun e => by rw [e, Nat.beq_refl] at hj; cases hj
        simp only [Exit.inBlock, this, if_false]
        exact ⟨ι1, ad, hr1, hf1, .exit j⟩
      · rw [hj] at hs
        simp only [CR.ok.injEq] at hs
        obtain ⟨rfl, rfl, rfl, rfl⟩ := hs
        have : j = id := Nat.eq_of_beq_eq_true hj
        simp only [Exit.inBlock, this, if_true]
        exact ⟨ι1, ad, hr1, hf1, .normal⟩
    · rename_i hne
      refine wpIn_mono (hev.code hs hr hf hF) ?_
      intro ex a1 w1 hp
      have hp0 := hp
      obtain ⟨ι1, ad, hr1, hf1, hx⟩ := hp
      cases hx with
      | exit j => exact absurd hs (hne _ _ _ _)
      | normal => exact hp0
      | goto l => exact hp0
      | ret => exact hp0
      | pan hv => exact hp0
  | loop b =>
    simp only [evCode] at hs
    exact wpIn_loop_rounds ev.n (evLoop_sound hev ev.n e ds h ι w a hs hr hf hF (.refl _ _ _))
  | rangeFunc f ps as b =>
    simp only [evCode] at hs
    exact evRange_sound hev hs hr hf hF
  | _ => simp only [evCode] at hs; cases hs

end Go.Dx
