/- DyB: the abstract run is sound, part 11: drawn regions, the whole; the evaluator. -/
import Derived.Test.YtcjmpdpgfmjcgaaGreatDoorDyA
namespace Go.Dx
variable {P : Program} {V : Nat → Nat → Bool} {ι : Iota} {bg : Nat}

section
variable {fr : Fr} {ops : Array Oper} {ι0 : Iota} {h0 : Heap} {w0 : World} {T : Nat} {dn : List Done} {e : Env} {ds : List ADef} {h H : Heap} {listed : Array Bool} {a : Act} {w : World}

/-- What the effect sees of the heap. -/
theorem DI.seen {x : Ix} (I : DI V fr ops ι0 h0 w0 T dn e ds h H listed ι a w) (he : edgesOk (ixs ops.toList) = true) (hx : x ∈ ixs ops.toList) (hr : ∀ ed ∈ x.o.after, Region.binds .any ed = true → Ls listed ed.on) :
    ∀ b o, (addAll (dn.filter (before x)) h).get b = some o → H.get b = some o := by
  intro b o hb
  rcases addAll_get hb with ⟨d, g1, nk, g2⟩ | ⟨g, _⟩
  · obtain ⟨m1, m2⟩ := List.mem_filter.1 g1
    exact I.lay d m1 (closure he I.closed (x.i + 1) x (Nat.lt_succ_self _) hx hr d.x.i m2) b nk o g2
  · exact I.hin b o g

/-- The effect has been carried out. -/
theorem DI.effect {x : Ix} {ι' : Iota} {h' : Heap} {w' : World} {a' : Act} {e1 e2 : Env} {ds' : List ADef} {v' : Value} (I : DI V fr ops ι0 h0 w0 T dn e ds h H listed ι a w) (he : edgesOk (ixs ops.toList) = true)
    (hx : x ∈ ixs ops.toList) (hT : T.testBit x.i = false) (hr : ∀ ed ∈ x.o.after, Region.binds .any ed = true → Ls listed ed.on)
    (hat : a'.tmps = (a.put x.o.dst v').tmps) (ha : Adv ι (addAll (dn.filter (before x)) h) w ι' h' w') (hr' : HR ι' h' w'.heap) (hf : FR V fr ι' e1 ds' a') (ht1 : take1 V fr.fn x.o e1 e = some e2) :
    ∃ H', DI V fr ops ι0 h0 w0 (Nat.lor T (Nat.shiftLeft 1 x.i)) (dn.filter fun d => !before x d) e2 ds' h' H' (listed.setIfInBounds x.i true) ι' a' w' := by
  have hxo := (mem_ixs hx).1
  have hlt : x.i < listed.size := by rw [I.lsz]; exact (Array.getElem?_eq_some_iff.1 hxo).1
  have hcl : ∀ j, Nat.testBit x.m j = true → Ls listed j := closure he I.closed (x.i + 1) x (Nat.lt_succ_self _) hx hr
  have hseen := I.seen he hx hr
  obtain ⟨hnx2, hgl2⟩ := addAll_nx (dn.filter (before x)) h
  have hmem : ∀ d, d ∈ (dn.filter fun d => !before x d) ↔ d ∈ dn ∧ before x d = false := by
    intro d; rw [List.mem_filter]; simp
  let lo := (dn.filter fun d => !before x d).filter fun d => listed.getD d.x.i false
  have hlo : ∀ d, d ∈ lo ↔ d ∈ dn ∧ before x d = false ∧ Ls listed d.x.i := by
    intro d
    show d ∈ ((dn.filter fun d => !before x d).filter fun d => listed.getD d.x.i false) ↔ _
    rw [List.mem_filter, hmem, and_assoc]
  -- a loose block is not seen
  have hloose : ∀ d ∈ lo, ∀ b nk ao, d.b = some (b, nk, ao) → H.get b = some ao ∧ (addAll (dn.filter (before x)) h).get b = none ∧ True := by
    intro d hd b nk ao hb
    obtain ⟨d1, d2, d3⟩ := (hlo d).1 hd
    obtain ⟨a1, a2, a3, _⟩ := I.res d d1 b nk ao hb
    refine ⟨I.lay d d1 d3 b nk ao hb, ?_, a3⟩
    rw [addAll_other]
    · exact a1
    · intro d' hd' nk' ao' hb'
      obtain ⟨m1, m2⟩ := List.mem_filter.1 hd'
      have := I.bu d d1 d' m1 b nk ao nk' ao' hb hb'
      subst this
      rw [d2] at m2; cases m2
  have hnosee : ∀ d ∈ lo, ∀ b nk ao, d.b = some (b, nk, ao) → h'.get b = none := by
    intro d hd b nk ao hb
    obtain ⟨q1, q2, _⟩ := hloose d hd b nk ao hb
    obtain ⟨_, _, _, _, _, _, _, g, _⟩ := I.hr.loose hseen hr' ha q1 q2
    exact g
  have hlou : ∀ d ∈ lo, ∀ d' ∈ lo, ∀ b nk ao nk' ao', d.b = some (b, nk, ao) → d'.b = some (b, nk', ao') → d = d' :=
    fun d hd d' hd' => I.bu d ((hlo d).1 hd).1 d' ((hlo d').1 hd').1
  obtain ⟨hnx3, hgl3⟩ := addAll_nx lo h'
  obtain ⟨j1, j2⟩ := I.hr.join (H' := addAll lo h') hseen hr' ha (by rw [hnx2, I.nx]) (by rw [hgl2, I.gl]) (fun b o hb => by
    rcases addAll_get hb with ⟨d, g1, nk, g2⟩ | ⟨g, _⟩
    · obtain ⟨q1, q2, _⟩ := hloose d g1 b nk o g2
      exact .inr ⟨q1, q2⟩
    · exact .inl g) hnx3 hgl3
  have hTs : ∀ k, (Nat.lor T (Nat.shiftLeft 1 x.i)).testBit k = true ↔ (T.testBit k = true ∨ x.i = k) := by
    intro k; rw [testBit_set]; simp
  have hnei : ∀ y, T.testBit y = true → y ≠ x.i := fun y hy e => by rw [e, hT] at hy; cases hy
  refine ⟨addAll lo h', by simp [I.lsz], ?_, ?_, ?_, ?_, ?_, ?_, ?_, ?_, hf.sz, hf.df, j1, I.adv.trans j2, hnx3, hgl3, ?_, ?_, ?_, ?_, ?_⟩
  · intro k hk o ho ed hed hb
    rcases (ls_set hlt).1 hk with rfl | g
    · rw [hxo] at ho; cases ho
      exact (ls_set hlt).2 (.inr (hr ed hed hb))
    · exact (ls_set hlt).2 (.inr (I.closed k g o ho ed hed hb))
  · intro k hk
    rcases (ls_set hlt).1 hk with rfl | g
    · exact (hTs _).2 (.inr rfl)
    · exact (hTs _).2 (.inl (I.sub k g))
  · intro y hy hyT hye
    rcases (hTs _).1 hyT with g | g
    · exact (ls_set hlt).2 (.inr (I.eff y hy g hye))
    · exact (ls_set hlt).2 (.inl g.symm)
  · intro d hd
    obtain ⟨d1, d2⟩ := (hmem d).1 hd
    obtain ⟨g1, g2, g3⟩ := I.dnin d d1
    exact ⟨g1, (hTs _).2 (.inl g2), g3⟩
  · intro y hy hyT hyl
    have hyx : y.i ≠ x.i := fun e => hyl ((ls_set hlt).2 (.inl e))
    have hyT' : T.testBit y.i = true := ((hTs _).1 hyT).resolve_right fun e => hyx e.symm
    have hyl' : ¬ Ls listed y.i := fun hq => hyl ((ls_set hlt).2 (.inr hq))
    obtain ⟨d, d1, d2⟩ := I.cov y hy hyT' hyl'
    refine ⟨d, (hmem d).2 ⟨d1, ?_⟩, d2⟩
    cases hq : before x d with
    | false => rfl
    | true => exact absurd (hcl _ hq) (by rw [d2]; exact hyl')
  · intro d hd d' hd'
    exact I.uniq d ((hmem d).1 hd).1 d' ((hmem d').1 hd').1
  · intro t v hv
    by_cases hdst : x.o.dst = some t
    · unfold take1 at ht1
      rw [hdst] at ht1
      simp only at ht1
      split at ht1
      · rename_i v1 hv1
        cases ht1
        rw [lk_putE I.ei] at hv
        simp at hv
        subst hv
        exact .inr (hf.env t v1 hv1)
      · cases ht1
    · have hlk : lk t e = some v := by
        unfold take1 at ht1
        split at ht1
        · cases ht1; exact hv
        · rename_i s hs
          split at ht1
          · cases ht1
            rw [lk_putE I.ei] at hv
            have hne : ¬ s = t := fun e => hdst (by rw [hs, e])
            simp [hne] at hv
            exact hv
          · cases ht1
      have hsame : a'.tmps[t]? = a.tmps[t]? := by
        rw [hat]
        cases hq : x.o.dst with
        | none => rfl
        | some s =>
          have hne : s ≠ t := fun e => hdst (by rw [hq, e])
          simp only [Act.put]
          rw [Array.getElem?_setIfInBounds_ne hne]
      rcases I.slots t v hlk with ⟨y, y1, y2, y3, y4⟩ | ⟨v1, g1, g2⟩
      · refine .inl ⟨y, y1, (hTs _).2 (.inl y2), fun hq => ?_, y4⟩
        rcases (ls_set hlt).1 hq with g | g
        · exact hnei _ y2 g
        · exact y3 g
      · exact .inr ⟨v1, by rw [hsame]; exact g1, g2.mono ha.sub⟩
  · unfold take1 at ht1
    split at ht1
    · cases ht1; exact I.ei
    · split at ht1
      · cases ht1; exact I.ei.putE _ _
      · cases ht1
  · intro b o hb
    rw [addAll_other]
    · exact hb
    · intro d hd nk ao hq
      have := hnosee d hd b nk ao hq
      rw [this] at hb; cases hb
  · intro d hd hl b nk ao hb
    obtain ⟨d1, d2⟩ := (hmem d).1 hd
    have hl' : Ls listed d.x.i := ((ls_set hlt).1 hl).resolve_left fun e => hnei _ (I.dnin d d1).2.1 e
    have hdlo : d ∈ lo := (hlo d).2 ⟨d1, d2, hl'⟩
    exact addAll_same hlou hdlo hb (hloose d hdlo b nk ao hb).2.2
  · intro b o hb
    rcases addAll_get hb with ⟨d, g1, nk, g2⟩ | ⟨g, _⟩
    · obtain ⟨d1, d2, d3⟩ := (hlo d).1 g1
      exact .inr ⟨d, (hmem d).2 ⟨d1, d2⟩, (ls_set hlt).2 (.inr d3), nk, g2⟩
    · exact .inl g
  · intro d hd b nk ao hb
    obtain ⟨d1, d2⟩ := (hmem d).1 hd
    obtain ⟨a1, a2, a3, a4, a5, a6⟩ := I.res d d1 b nk ao hb
    have hb2 : b < (addAll (dn.filter (before x)) h).nx := by rw [hnx2]; exact a2
    have hpend : ¬ Ls listed d.x.i → ι' b = none := fun hq => by rw [ha.old b hb2]; exact a6 hq
    refine ⟨?_, Nat.lt_of_lt_of_le hb2 ha.nx, a3, by rw [ha.gl, hgl2]; exact a4, a5, fun hq => hpend fun hq' => hq ((ls_set hlt).2 (.inr hq'))⟩
    by_cases hq : Ls listed d.x.i
    · exact hnosee d ((hlo d).2 ⟨d1, d2, hq⟩) b nk ao hb
    · cases hg : h'.get b with
      | none => rfl
      | some o =>
        obtain ⟨bi, _, e1, _⟩ := hr'.obj b o hg
        rw [hpend hq] at e1; cases e1
  · intro d hd d' hd'
    exact I.bu d ((hmem d).1 hd).1 d' ((hmem d').1 hd').1

theorem lkL_filter {p : Nat → Bool} {t : Nat} {v : Value} : ∀ {l : List (Nat × Value)}, lkL t (l.filter fun q => p q.1) = some v → p t = true ∧ lkL t l = some v := by
  intro l
  induction l with
  | nil => intro h; simp [lkL_nil] at h
  | cons q l ih =>
    intro h
    by_cases hq : p q.1 = true
    · rw [List.filter_cons_of_pos (by simpa using hq), lkL_cons] at h
      rw [lkL_cons]
      by_cases e : q.1 = t
      · rw [if_pos e] at h ⊢; exact ⟨by rw [← e]; exact hq, h⟩
      · rw [if_neg e] at h ⊢; exact ih h
    · rw [List.filter_cons_of_neg (by simpa using hq)] at h
      obtain ⟨h1, h2⟩ := ih h
      have e : ¬ q.1 = t := fun e => hq (by rw [e]; exact h1)
      rw [lkL_cons, if_neg e]; exact ⟨h1, h2⟩

theorem scrub_sound {fn : FuncId} (hi : EI V fn e) : EI V fn (scrub ops.toList e) ∧ ∀ t v, lk t (scrub ops.toList e) = some v → lk t e = some v ∧ ∀ o ∈ ops.toList, o.dst ≠ some t := by
  refine ⟨⟨(fun p hp => nomatch hp), fun p hp => hi.2 p (List.mem_filter.1 hp).1⟩, fun t v hv => ?_⟩
  rw [lk_eq] at hv
  simp only [scrub, lkL_nil] at hv
  obtain ⟨h1, h2⟩ := lkL_filter (p := fun k => ops.toList.all fun o => match o.dst with | some d => !Nat.beq d k | none => true) hv
  refine ⟨lk_clear hi (by rw [lk_eq]; simp only [lkL_nil]; exact h2), fun o ho hd => ?_⟩
  have := List.all_eq_true.1 h1 o ho
  rw [hd] at this
  simp at this

/-- Every operation has been listed. -/
theorem DI.done (I : DI V fr ops ι0 h0 w0 T dn e ds h H listed ι a w) (he : edgesOk (ixs ops.toList) = true) (hready : Region.ready .any ops listed = []) : ∀ k, k < ops.size → Ls listed k := by
  intro k
  induction k using Nat.strongRecOn with
  | _ k ih =>
    intro hk
    cases hq : listed.getD k false with
    | true => exact hq
    | false =>
      exfalso
      have hmem : k ∈ Region.ready .any ops listed := by
        rw [mem_ready]
        refine ⟨?_, ops[k], by simp [hk], fun ed hed hb => ?_⟩
        · have : k < listed.size := by rw [I.lsz]; exact hk
          simp [this] at hq ⊢; exact hq
        · obtain ⟨x, x1, x2, x3⟩ := ixs_get (ops := ops) (k := k) (o := ops[k]) (by simp [hk])
          unfold edgesOk at he
          have h4 := List.all_eq_true.1 (List.all_eq_true.1 he x x1) ed (by rw [x3]; simpa using hed)
          simp only [hb, Bool.not_true, Bool.false_or] at h4
          have hlt : ed.on < x.i := Nat.le_of_ble_eq_true h4
          rw [x2] at hlt
          exact ih ed.on hlt (by omega)
      rw [hready] at hmem; cases hmem
end

theorem evDraw_cons (ev : Ev) (fr : Fr) (ops : Array Oper) (ph : Phase) (phs : List Phase) (dn : List Done) (e : Env) (ds : List ADef) (h : Heap) : evDraw P V ev fr ops (ph :: phs) dn e ds h =
      match quiets P V ev.n fr ops ph.qs dn e h with
      | some (dn', e, h) =>
        @Bool.casesOn (fun _ => CR) (Nat.ble h.nx ev.n && dn.all (still P ev.n ops h e)) .no
          (match ph.ef with
           | none => .ok .normal e ds (addAll dn' h)
           | some x =>
             match evOp P V ev fr ops.toList x.o (view V fr.fn e (x.o.looksAt ops)) ds (addAll (dn'.filter (before x)) h) with
             | .ok .normal e1 ds h => match take1 V fr.fn x.o e1 e with
               | some e => evDraw P V ev fr ops phs (dn'.filter fun d => !before x d) e ds h
               | none => .no
             | .ok (.pan v) _ ds h => .ok (.pan v) (scrub ops.toList e) ds h
             | _ => .no)
      | none => .no := rfl

theorem evDraw_sound {ev : Ev} (hev : EvOK P V ev) {fr : Fr} {ops : Array Oper} {ι0 : Iota} {h0 : Heap} {w0 : World} {x' : AExit} {e' : Env} {ds' : List ADef} {h' : Heap} {F : Fence} (he : edgesOk (ixs ops.toList) = true) (hso : slotsOk ops (ixs ops.toList) = true) :
    ∀ (phs : List Phase) (T : Nat) (dn : List Done) (e : Env) (ds : List ADef) (h : Heap), (∀ ph ∈ phs, ((∀ x ∈ ph.qs, x ∈ ixs ops.toList) ∧ ∀ x, ph.ef = some x → x ∈ ixs ops.toList) ∧ qsOk ops ph.qs = true) → orderOk (ixs ops.toList) phs T = true →
      evDraw P V ev fr ops phs dn e ds h = .ok x' e' ds' h' → ∀ (U : List Nat) (listed : Array Bool) (ι : Iota) (a : Act) (w : World) (H : Heap), U.Nodup → (∀ k, k < ops.size → ¬ Ls listed k → k ∈ U) →
      DI V fr ops ι0 h0 w0 T dn e ds h H listed ι a w → FenR ι fr.rd F → wpAnyIn F 0 P .any ops (PostC V fr ι0 h0 w0 x' e' ds' h') U.length listed a w := by
  intro phs
  induction phs with
  | nil => intro T dn e ds h _ _ hs; cases hs
  | cons ph phs ihp =>
    intro T dn0 ee0 ds hh0 hmem hord hs U0 listed0 ι00 a00 w00 H00 hU0 hUc0 I0 hF0
    rw [evDraw_cons] at hs
    simp only [orderOk] at hord
    split at hord
    case h_2 => cases hord
    rename_i T1 htq
    split at hs
    case h_2 => cases hs
    rename_i dn e h hq
    cases hst0 : (Nat.ble h.nx ev.n && dn0.all (still P ev.n ops h e))
    · rw [hst0] at hs; cases hs
    rw [hst0] at hs
    simp only at hs
    simp only [Bool.and_eq_true] at hst0
    obtain ⟨hm, hqs⟩ := hmem ph List.mem_cons_self
    have hbig : h.nx ≤ ev.n := Nat.le_of_ble_eq_true hst0.1
    have I1 := I0.quiets (P := P) hq htq hm.1
    have hst : ∀ d ∈ dn, Still P ev.n ops h e d := fun d hd =>
      ((quiets_still ph.qs dn0 ee0 hh0 hq hqs I0.ei).2.2.2 d hd).elim (fun g => still_sound (List.all_eq_true.1 hst0.2 d g)) id
    -- the end
    have fin : ∀ (listed : Array Bool) (ι : Iota) (a : Act) (w : World) (H : Heap), DI V fr ops ι0 h0 w0 T1 dn e ds h H listed ι a w → (∀ k, k < ops.size → Ls listed k) → PostC V fr ι0 h0 w0 x' e' ds' h' .normal a w := by
      intro listed ι a w H I hall
      cases hef : ph.ef with
      | some x =>
        exfalso
        rw [hef] at hord
        simp only [Bool.and_eq_true, Bool.not_eq_true'] at hord
        have hx := hm.2 x hef
        have := I.sub x.i (hall x.i (Array.getElem?_eq_some_iff.1 (mem_ixs hx).1).1)
        rw [hord.1.1.1] at this; cases this
      | none =>
        rw [hef] at hs
        simp only [CR.ok.injEq] at hs
        obtain ⟨rfl, rfl, rfl, rfl⟩ := hs
        have hnp : ∀ y ∈ ixs ops.toList, Ls listed y.i := fun y hy => hall y.i (Array.getElem?_eq_some_iff.1 (mem_ixs hy).1).1
        obtain ⟨hnx, hgl⟩ := addAll_nx dn h
        have hsub : ∀ b o, (addAll dn h).get b = some o → H.get b = some o := by
          intro b o hb
          rcases addAll_get hb with ⟨d, g1, nk, g2⟩ | ⟨g, _⟩
          · exact I.lay d g1 (hnp _ (I.dnin d g1).1) b nk o g2
          · exact I.hin b o g
        refine ⟨ι, ⟨I.adv.sub, I.adv.sz, I.adv.fr, ?_, ?_, I.adv.old, ?_, I.adv.os, I.adv.out, I.adv.fz⟩, I.hr.weaken hsub (by rw [hnx, I.nx]; exact Nat.le_refl _) (by rw [hgl, I.gl]), ⟨fun t v hv => ?_, I.ei, I.sz, I.df⟩, .normal⟩
        · rintro c ⟨b, o, bi, g1, g2, g3⟩ hc
          exact I.adv.dm c ⟨b, o, bi, hsub _ _ g1, g2, g3⟩ hc
        · rw [hnx, ← I.nx]; exact I.adv.nx
        · rw [hgl, ← I.gl]; exact I.adv.gl
        · rcases I.slots t v hv with ⟨y, y1, _, y3, _⟩ | g
          · exact absurd (hnp y y1) y3
          · exact g
    -- within the phase
    have inner : ∀ (n : Nat) (U : List Nat) (listed : Array Bool) (ι : Iota) (a : Act) (w : World) (H : Heap), U.length = n → U.Nodup → (∀ k, k < ops.size → ¬ Ls listed k → k ∈ U) → DI V fr ops ι0 h0 w0 T1 dn e ds h H listed ι a w → FenR ι fr.rd F →
        wpAnyIn F 0 P .any ops (PostC V fr ι0 h0 w0 x' e' ds' h') n listed a w := by
      intro n
      induction n with
      | zero =>
        intro U listed ι a w H hUl hU hUc I hF
        have hnil : U = [] := List.length_eq_zero_iff.1 hUl
        have hall : ∀ k, k < ops.size → Ls listed k := fun k hk => by
          cases hq : listed.getD k false with
          | true => exact hq
          | false =>
            have := hUc k hk (by unfold Ls; rw [hq]; simp)
            rw [hnil] at this; cases this
        refine ⟨?_, fin listed ι a w H I hall⟩
        cases hq : Region.ready .any ops listed with
        | nil => rfl
        | cons i l =>
          exfalso
          have hi : i ∈ Region.ready .any ops listed := by rw [hq]; exact List.mem_cons_self
          obtain ⟨g1, o, g2, _⟩ := mem_ready.1 hi
          have hlt := (Array.getElem?_eq_some_iff.1 g2).1
          have h1 := hall i hlt
          have : i < listed.size := by rw [I.lsz]; exact hlt
          unfold Ls at h1
          simp [this] at g1 h1
          rw [g1] at h1; cases h1
      | succ n ihn =>
        intro U listed ι a w H hUl hU hUc I hF
        refine ⟨fun hready => fin listed ι a w H I (I.done he hready), fun i hi => ?_⟩
        obtain ⟨g1, o, g2, g3⟩ := mem_ready.1 hi
        have hlt := (Array.getElem?_eq_some_iff.1 g2).1
        have hltl : i < listed.size := by rw [I.lsz]; exact hlt
        have hnl : ¬ Ls listed i := by
          unfold Ls
          simp [hltl] at g1 ⊢
          exact g1
        have hiU := hUc i hlt hnl
        have hU' : (U.erase i).Nodup := hU.erase i
        have hUl' : (U.erase i).length = n := by rw [List.length_erase_of_mem hiU, hUl]; rfl
        have hUc' : ∀ k, k < ops.size → ¬ Ls (listed.setIfInBounds i true) k → k ∈ U.erase i := by
          intro k hk hkl
          rw [hU.mem_erase_iff]
          exact ⟨fun e => hkl ((ls_set hltl).2 (.inl e)), hUc k hk fun hq => hkl ((ls_set hltl).2 (.inr hq))⟩
        obtain ⟨x, hx, rfl, rfl⟩ := ixs_get g2
        cases hT : T1.testBit x.i with
        | true =>
          refine I.step (P := P) hst hbig he hso hF hx hT hnl g3 ?_
          intro ι' a' w' H' hsub I'
          exact ihn _ _ ι' a' w' H' hUl' hU' hUc' I' (hF.mono hsub)
        | false =>
          cases hef : ph.ef with
          | none =>
            exfalso
            rw [hef] at hord
            have := List.all_eq_true.1 hord x hx
            rw [hT] at this; cases this
          | some y =>
            rw [hef] at hord hs
            simp only [Bool.and_eq_true, Bool.not_eq_true'] at hord
            obtain ⟨⟨⟨o1, o2⟩, o3⟩, o4⟩ := hord
            have hy := hm.2 y hef
            have hxy : y = x := by
              have h1 := List.all_eq_true.1 o3 x hx
              rw [hT] at h1
              simp only [Bool.false_or, Bool.or_eq_true] at h1
              rcases h1 with h1 | h1
              · exact (ixs_inj hx hy (Nat.eq_of_beq_eq_true h1)).symm
              · exfalso
                have := I.sub _ (closure he I.closed (x.i + 1) x (Nat.lt_succ_self _) hx g3 y.i h1)
                rw [o1] at this; cases this
            subst hxy
            simp only at hs
            obtain ⟨hnx2, hgl2⟩ := addAll_nx (dn.filter (before y)) h
            have hr2 : HR ι (addAll (dn.filter (before y)) h) w.heap := I.hr.weaken (I.seen he hx g3) (by rw [hnx2, I.nx]; exact Nat.le_refl _) (by rw [hgl2, I.gl])
            have hfr := I.view he hso hx hnl g3
            split at hs
            · rename_i e1 ds1 h1 hop
              split at hs
              case h_2 => cases hs
              rename_i e2 ht1
              refine evOp_sound hev g2 hop hr2 hfr hF ⟨fun _ ι' v' a' w' hat ha hr' hf => ?_, fun v hv => by cases hv⟩
              obtain ⟨H', I'⟩ := I.effect he hx hT g3 hat ha hr' hf ht1
              have := ihp _ _ e2 ds1 h1 (fun ph' hp' => hmem ph' (List.mem_cons_of_mem _ hp')) o4 hs (U.erase y.i) _ ι' a' w' H' hU' hUc' I' (hF.mono ha.sub)
              rw [hUl'] at this
              exact this
            · rename_i v e1 ds1 h1 hop
              simp only [CR.ok.injEq] at hs
              obtain ⟨rfl, rfl, rfl, rfl⟩ := hs
              refine evOp_sound hev g2 hop hr2 hfr hF ⟨(fun hn => by cases hn), fun v1 hv1 ι' v' w' ha hr' hf hvv => ?_⟩
              cases hv1
              obtain ⟨s1, s2⟩ := scrub_sound (ops := ops) I.ei
              refine ⟨ι', ?_, hr', ⟨fun t v hv => ?_, s1, hf.sz, hf.df⟩, .pan hvv⟩
              · have hseen := I.seen he hx g3
                refine ⟨I.adv.sub.trans ha.sub, Nat.le_trans I.adv.sz ha.sz, fun c hc hnr => ?_, fun c hrg hc => ?_, ?_, fun c hc => ?_, ?_, ha.os.trans I.adv.os, ha.out.trans I.adv.out, fun c hc => ha.fz c (I.adv.fz c hc)⟩
                · rw [ha.fr c (Nat.lt_of_lt_of_le hc I.adv.sz) ?_, I.adv.fr c hc hnr]
                  rintro ⟨b, o, bi, q1, q2, q3⟩
                  exact hnr (I.adv.dm c ⟨b, o, bi, hseen _ _ q1, q2, q3⟩ hc)
                · obtain ⟨b, o, bi, q1, q2, q3⟩ := ha.dm c hrg (Nat.lt_of_lt_of_le hc I.adv.sz)
                  exact I.adv.dm c ⟨b, o, bi, hseen _ _ q1, q2, q3⟩ hc
                · have := ha.nx; rw [hnx2, ← I.nx] at this; exact Nat.le_trans I.adv.nx this
                · rw [ha.old c (by rw [hnx2, ← I.nx]; exact Nat.lt_of_lt_of_le hc I.adv.nx)]; exact I.adv.old c hc
                · rw [ha.gl, hgl2, ← I.gl]; exact I.adv.gl
              · obtain ⟨q1, q2⟩ := s2 t v hv
                rcases I.slots t v q1 with ⟨y', y1, _, _, y4⟩ | ⟨v2, r1, r2⟩
                · exfalso
                  have := (mem_ixs y1).1
                  exact q2 y'.o (by simpa using Array.mem_of_getElem? this) y4
                · exact ⟨v2, r1, r2.mono ha.sub⟩
            · cases hs
    exact inner U0.length U0 listed0 ι00 a00 w00 _ rfl hU0 hUc0 I1 hF0

theorem draw_sound (hm : P.follows .mixedOrders = true) {ev : Ev} (hev : EvOK P V ev) {fr : Fr} {ops : Array Oper} {e : Env} {ds : List ADef} {h : Heap} {x : AExit} {e' : Env} {ds' : List ADef} {h' : Heap} (hd : drawOk ops = true)
    (hs : evDraw P V ev fr ops (phases (ixs ops.toList)) [] e ds h = .ok x e' ds' h') {w : World} {a : Act} {F : Fence} (id : Nat) (hr : HR ι h w.heap) (hf : FR V fr ι e ds a) (hF : FenR ι fr.rd F) :
    (Code.region id ops true).wpIn F 0 P (PostC V fr ι h w x e' ds' h') a w := by
  unfold drawOk at hd
  simp only [Bool.and_eq_true] at hd
  obtain ⟨⟨⟨⟨_, he⟩, hso⟩, hord⟩, hqs⟩ := hd
  refine wpIn_region_any hm ?_
  have I : DI V fr ops ι h w 0 [] e ds h h (Array.replicate ops.size false) ι a { w with drawn := w.drawn + 1 } := by
    have hno : ∀ k, ¬ Ls (Array.replicate ops.size false) k := by
      intro k hk
      unfold Ls at hk
      rcases Nat.lt_or_ge k ops.size with h1 | h1 <;> simp [h1] at hk
    refine ⟨by simp, fun k hk => absurd hk (hno k), fun k hk => absurd hk (hno k), fun x hx hxT => by simp at hxT, (fun d hd => nomatch hd), fun x hx hxT => by simp at hxT, (fun d hd => nomatch hd), fun t v hv => .inr (hf.env t v hv), hf.ei, hf.sz, hf.df, hr, (Adv.refl ι h w).alike rfl rfl rfl, rfl, rfl,
      fun b o hb => hb, (fun d hd => nomatch hd), fun b o hb => .inl hb, (fun d hd => nomatch hd), (fun d hd => nomatch hd)⟩
  have := evDraw_sound (F := F) hev he hso (phases (ixs ops.toList)) 0 [] e ds h (fun ph hph => ⟨phases_mem _ 0 (fun x hx => (List.mem_filter.1 hx).1) ph hph, List.all_eq_true.1 hqs ph hph⟩) hord hs (List.range ops.size) _ ι a _ h List.nodup_range (fun k hk _ => List.mem_range.2 hk) I hF
  rw [List.length_range] at this
  exact this

theorem ev_ok (hm : P.follows .mixedOrders = true) : ∀ n, EvOK P V (ev P V n) := by
  intro n
  induction n with
  | zero =>
    refine ⟨fun hs => ?_, fun hs hne => ?_⟩
    · cases hs
    · exact absurd hs.symm hne
  | succ n ih =>
    refine ⟨fun hs ι w a F hr hf hF => ?_, fun hs hne ι w args' hr hv => ?_⟩
    · exact evCode_sound ih (fun hd hq ι w a F id hr hf hF => draw_sound hm ih hd hq id hr hf hF) hs hr hf hF
    · exact evCall_sound ih hs hne hr hv

end Go.Dx
