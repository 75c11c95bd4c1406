/- DxU: the abstract run is sound, part 4: regions in the order of the text, loops, ranges over functions. -/
import Derived.Test.YtcjmpdpgfmjcgaaGreatDoorDxT
import Derived.LoopNIn
namespace Go.Dx
variable {P : Program} {V : Nat → Nat → Bool} {ι : Iota}

section
variable {ev : Ev} {fr : Fr} {ops : Array Oper}

theorem evOps_cons (ops : List Oper) (o : Oper) (l : List Oper) (e : Env) (ds : List ADef) (h : Heap) : evOps P V ev fr ops (o :: l) e ds h = match evOp P V ev fr ops o e ds h with
      | .ok .normal e' ds' h' => evOps P V ev fr ops l e' ds' h'
      | r => r := rfl

theorem evOps_sound (hev : EvOK P V ev) {ι0 : Iota} {h0 : Heap} {w0 : World} {F : Fence} {x : AExit} {e' : Env} {ds' : List ADef} {h' : Heap} : ∀ (l : List Oper) (k : Nat), ops.toList.drop k = l →
    ∀ (e : Env) (ds : List ADef) (h : Heap) (ι : Iota) (w : World) (a : Act), evOps P V ev fr ops.toList l e ds h = .ok x e' ds' h' → HR ι h w.heap → FR V fr ι e ds a → FenR ι fr.rd F →
    Adv ι0 h0 w0 ι h w → wpOpsIn F 0 P ops (PostC V fr ι0 h0 w0 x e' ds' h') (List.range' k l.length) a w := by
  intro l
  induction l with
  | nil =>
    intro k hk e ds h ι w a hs hr hf hF ha
    simp only [evOps, CR.ok.injEq] at hs
    obtain ⟨rfl, rfl, rfl, rfl⟩ := hs
    exact ⟨ι, ha, hr, hf, .normal⟩
  | cons o l ih =>
    intro k hk e ds h ι w a hs hr hf hF ha
    have ho : ops[k]? = some o := by
      have : ops.toList[k]? = some o := by
        have h1 : (ops.toList.drop k)[0]? = some o := by rw [hk]; rfl
        rw [List.getElem?_drop] at h1; simpa using h1
      simpa using this
    have hk' : ops.toList.drop (k + 1) = l := by
      have : (ops.toList.drop k).drop 1 = l := by rw [hk]; rfl
      rw [List.drop_drop] at this; exact this
    rw [List.length_cons, List.range'_succ, wpOpsIn_cons]
    rw [evOps_cons] at hs
    split at hs
    · rename_i e1 ds1 h1 hop
      refine evOp_sound hev ho hop hr hf hF ⟨fun _ ι1 _ a1 w1 _ ad hr1 hf1 => ?_, fun v hv => by cases hv⟩
      exact ih (k + 1) hk' e1 ds1 h1 ι1 w1 a1 hs hr1 hf1 (hF.mono ad.sub) (ha.trans ad)
    · rename_i hne
      refine evOp_sound hev ho hs hr hf hF ⟨fun hx => ?_, fun v hv ι1 v' w1 ad hr1 hf1 hvv => ?_⟩
      · subst hx; exact absurd hs (hne _ _ _)
      · subst hv
        exact ⟨ι1, ha.trans ad, hr1, hf1, .pan hvv⟩

theorem evLoop_succ (b : Code) (m : Nat) (e : Env) (ds : List ADef) (h : Heap) : evLoop ev fr b (m + 1) e ds h = match ev.code fr b e ds h with
      | .ok .normal e ds h => evLoop ev fr b m e ds h
      | r => r := rfl

theorem PostC.then {h h1 h' : Heap} {ι1 : Iota} {w w1 : World} {x : AExit} {e' : Env} {ds' : List ADef} {K : Act → World → Prop} (hx : x ≠ .normal) (ha : Adv ι h w ι1 h1 w1) {ex : Exit} {a' : Act} {w' : World}
    (hp : PostC V fr ι1 h1 w1 x e' ds' h' ex a' w') : Exit.then K (PostC V fr ι h w x e' ds' h') ex a' w' := by
  have hp' := hp.trans ha
  obtain ⟨ι', _, _, _, a4⟩ := hp
  cases a4 with
  | normal => exact absurd rfl hx
  | exit id => exact hp'
  | goto l => exact hp'
  | ret => exact hp'
  | pan hv => exact hp'

theorem evLoop_sound (hev : EvOK P V ev) {b : Code} {ι0 : Iota} {h0 : Heap} {w0 : World} {F : Fence} {x : AExit} {e' : Env} {ds' : List ADef} {h' : Heap} : ∀ (m : Nat) (e : Env) (ds : List ADef) (h : Heap) (ι : Iota) (w : World) (a : Act),
    evLoop ev fr b m e ds h = .ok x e' ds' h' → HR ι h w.heap → FR V fr ι e ds a → FenR ι fr.rd F → Adv ι0 h0 w0 ι h w →
    Code.roundsIn F 0 P b (PostC V fr ι0 h0 w0 x e' ds' h') m a w := by
  intro m
  induction m with
  | zero => intro e ds h ι w a hs; cases hs
  | succ m ih =>
    intro e ds h ι w a hs hr hf hF ha
    rw [evLoop_succ] at hs
    rw [roundsIn_succ]
    split at hs
    · rename_i e1 ds1 h1 hc
      refine wpIn_mono (hev.code hc hr hf hF) ?_
      rintro ex a1 w1 ⟨ι1, ad, hr1, hf1, hx⟩
      cases hx
      exact ih e1 ds1 h1 ι1 w1 a1 hs hr1 hf1 (hF.mono ad.sub) (ha.trans ad)
    · rename_i hne
      refine wpIn_mono (hev.code hs hr hf hF) ?_
      intro ex a1 w1 hp
      exact PostC.then (fun hx => by subst hx; exact hne _ _ _ hs) ha hp

theorem FenR.roundEq {rd : Option Nat} {F : Fence} (h : FenR ι rd F) : (rd = none ∧ F.round = none) ∨ ∃ l bi, rd = some l ∧ ι l = some bi ∧ F.round = some bi.blk := by
  cases rd with
  | none => rw [h]; exact .inl ⟨rfl, rfl⟩
  | some l => obtain ⟨bi, h1, rfl⟩ := h; exact .inr ⟨l, bi, rfl, h1, rfl⟩

/-- A range over a function, its record laid. -/
theorem rangeStart {F : Fence} (hev : EvOK P V ev) {f : Operand} {ps : Array Tmp} {asg bd : Code} {e : Env} {ds : List ADef} {h : Heap} {r : Nat} {x : AExit} {e' : Env} {ds' : List ADef} {h' : Heap} {ι0 : Iota} {h0 : Heap} {w0 w : World} {a : Act} {bir : BI}
    {mark : List Deferred} (hr : HR ι h w.heap) (hf : FR V fr ι e ds { a with defers := mark ++ a.defers }) (hF : FenR ι fr.rd F) (ha : Adv ι0 h0 w0 ι h w) (hir : ι r = some bir)
    (hs : @Eq CR (match opv h e f with
     | some (.func (.func g) ⟨first⟩ ⟨cap⟩) =>
       @Bool.casesOn (fun _ => CR) (bodied P g) .no
       (match ev.call g (first ++ (.func (.yield h.nx) ⟨[]⟩ ⟨[]⟩ :: cap)) (h.add (.loop .ready none fr.fn fr.nt ⟨[], e.va⟩ ps asg bd r)) with
        | .ret _ h' =>
          match h'.get h.nx with
          | some (.loop st pend fn nt env params assign body defers) =>
            match st with
            | .busy => .no
            | _ =>
              match pend with
              | none => .ok .normal e ds (h'.set h.nx (.loop .exhausted pend fn nt env params assign body defers))
              | some c => ev.code fr c e ds (h'.set h.nx (.loop .exhausted pend fn nt env params assign body defers))
          | _ => .no
        | .pan v h' => .ok (.pan v) e ds h'
        | .no => .no)
     | _ => .no) (.ok x e' ds' h')) (fn : FuncId) :
    ∃ (d : Deferred) (g : FuncId) (args : Array Value),
      (resolve a.eval (rangeCall f w.heap.size) 0).run P { w with heap := w.heap.push (.loop { state := .ready, pending := none, fn, tmps := a.tmps, params := ps, assign := asg, body := bd, defers := bir.blk }) } =
        .ok d { w with heap := w.heap.push (.loop { state := .ready, pending := none, fn, tmps := a.tmps, params := ps, assign := asg, body := bd, defers := bir.blk }) } ∧
      (invoke d.target d.args).run P { w with heap := w.heap.push (.loop { state := .ready, pending := none, fn, tmps := a.tmps, params := ps, assign := asg, body := bd, defers := bir.blk }) } =
        .ok (.enter g args) { w with heap := w.heap.push (.loop { state := .ready, pending := none, fn, tmps := a.tmps, params := ps, assign := asg, body := bd, defers := bir.blk }) } ∧
      Calls P g args { w with heap := w.heap.push (.loop { state := .ready, pending := none, fn, tmps := a.tmps, params := ps, assign := asg, body := bd, defers := bir.blk }) }
        (rangePost F 0 P w.heap.size (PostC V fr ι0 h0 w0 x e' ds' h') { a with defers := mark ++ a.defers }) := by
  split at hs
  case h_2 => cases hs
  rename_i g first cap hopv
  cases hb : bodied P g
  · rw [hb] at hs; cases hs
  rw [hb] at hs
  simp only at hs
  have hv := opv_sound (a := { a with defers := mark ++ a.defers }) hr hf.env hopv
  have hev0 : ({ a with defers := mark ++ a.defers } : Act).eval f = a.eval f := by cases f <;> rfl
  rw [hev0] at hv
  generalize hz : a.eval f = z at hv
  cases hv with
  | fn _ hfirst hcap =>
  rename_i first' cap'
  -- the record
  let bi : BI := ⟨w.heap.size, 0, 0⟩
  let lc : Loop := { state := .ready, pending := none, fn, tmps := a.tmps, params := ps, assign := asg, body := bd, defers := bir.blk }
  have hsub := hr.sub_upd bi
  have hadd := hr.add (o := .loop .ready none fr.fn fr.nt ⟨[], e.va⟩ ps asg bd r) (o' := .loop lc) (bi := bi) rfl (by
    simp only [OR]
    exact ⟨rfl, rfl, hf.sz, (hf.clear.env).mono hsub, rfl, rfl, rfl, bir, hsub _ _ hir, rfl⟩)
  have hi1 : upd ι h.nx bi h.nx = some bi := upd_same _ _ _
  refine ⟨{ target := .fn (.func g) cap', args := first' ++ #[Value.func (.yield w.heap.size) #[] #[]] }, g, first' ++ #[Value.func (.yield w.heap.size) #[] #[]] ++ cap', ?_, ?_, ?_⟩
  · simp only [resolve, hz, Deferred.ofValue, Sem.run_pure]
    simp [Act.eval]
  · simp only [invoke]
    exact run_callFunc hb _ _
  · have hargs : VRL (upd ι h.nx bi) (first ++ (Value.func (.yield h.nx) ⟨[]⟩ ⟨[]⟩ :: cap)) (first' ++ #[Value.func (.yield w.heap.size) #[] #[]] ++ cap').toList := by
      have e1 : (first' ++ #[Value.func (.yield w.heap.size) #[] #[]] ++ cap').toList = first'.toList ++ (Value.func (.yield w.heap.size) #[] #[] :: cap'.toList) := by simp
      rw [e1]
      exact (hfirst.mono hsub).append (.cons (VR.yield hi1) (hcap.mono hsub))
    have hcalls : ∀ q, ev.call g (first ++ (Value.func (.yield h.nx) ⟨[]⟩ ⟨[]⟩ :: cap)) (h.add (.loop .ready none fr.fn fr.nt ⟨[], e.va⟩ ps asg bd r)) = q → q ≠ .no →
        Calls P g (first' ++ #[Value.func (.yield w.heap.size) #[] #[]] ++ cap') { w with heap := w.heap.push (.loop lc) } (PostV (upd ι h.nx bi) (h.add (.loop .ready none fr.fn fr.nt ⟨[], e.va⟩ ps asg bd r)) { w with heap := w.heap.push (.loop lc) } q) :=
      fun q hq hne => hev.call hq hne (w := { w with heap := w.heap.push (.loop lc) }) hadd.1 hargs
    split at hs
    · rename_i v1 h1 hc1
      refine (hcalls _ hc1 (by simp)).mono ?_
      rintro en w2 ⟨ι2, v', rfl, _, hr2, ad2⟩
      split at hs
      case h_2 => cases hs
      rename_i st pend fn2 nt2 env2 ps2 as2 bd2 df2 hg2
      have hi2 := ad2.sub _ _ hi1
      obtain ⟨lc2, hw2, n1, n2, n4, n5, n6, n7, n8, bi2', n9, n10⟩ := hr2.loopAt hg2 hi2
      have hset2 := hr2.set (o2 := .loop .exhausted pend fn2 nt2 env2 ps2 as2 bd2 df2) (o2' := .loop { lc2 with state := .exhausted }) hg2 hi2 (by
        simp only [OR]
        exact ⟨trivial, n2, n4, n5, n6, n7, n8, bi2', n9, n10⟩)
      have hend : st ≠ .busy → (Instr.endLoop w.heap.size).run P w2 = .ok pend { w2 with heap := w2.heap.setIfInBounds w.heap.size (.loop { lc2 with state := .exhausted }) } := by
        intro hst
        have hw2' : w2.heap[w.heap.size]? = some (.loop lc2) := hw2
        have hbs : (lc2.state == .busy) = false := by rw [n1]; cases st <;> first | rfl | exact absurd rfl hst
        simp only [Instr.endLoop, Sem.run_bind, run_getLoop hw2', Result.andThen_ok, hbs, Bool.false_eq_true, if_false, run_setLoop hw2', Sem.run_pure, n2]
      have hadv : Adv ι0 h0 w0 ι2 (h1.set h.nx (.loop .exhausted pend fn2 nt2 env2 ps2 as2 bd2 df2)) { w2 with heap := w2.heap.setIfInBounds w.heap.size (.loop { lc2 with state := .exhausted }) } := ha.trans ((hadd.2.trans ad2).trans hset2.2)
      have hf2 : FR V fr ι2 e ds { a with defers := mark ++ a.defers } := (hf.mono hsub).mono ad2.sub
      have hF2 : FenR ι2 fr.rd F := (hF.mono hsub).mono ad2.sub
      have key : st ≠ .busy → (match pend with
              | none => CR.ok .normal e ds (h1.set h.nx (.loop .exhausted pend fn2 nt2 env2 ps2 as2 bd2 df2))
              | some c => ev.code fr c e ds (h1.set h.nx (.loop .exhausted pend fn2 nt2 env2 ps2 as2 bd2 df2))) = .ok x e' ds' h' →
          rangePost F 0 P w.heap.size (PostC V fr ι0 h0 w0 x e' ds' h') { a with defers := mark ++ a.defers } (.returned v') w2 := by
        intro hst hs2
        refine ⟨pend, _, hend hst, ?_⟩
        cases pend with
        | none =>
          simp only [CR.ok.injEq] at hs2
          obtain ⟨rfl, rfl, rfl, rfl⟩ := hs2
          exact ⟨ι2, hadv, hset2.1, hf2, .normal⟩
        | some c =>
          simp only at hs2
          refine wpIn_mono (hev.code hs2 (w := { w2 with heap := w2.heap.setIfInBounds w.heap.size (.loop { lc2 with state := .exhausted }) }) hset2.1 hf2 hF2) ?_
          intro ex a3 w3 hp
          exact hp.trans hadv
      cases st with
      | busy => cases hs
      | ready => exact key (by simp) hs
      | done => exact key (by simp) hs
      | exhausted => exact key (by simp) hs
    · rename_i v1 h1 hc1
      simp only [CR.ok.injEq] at hs
      obtain ⟨rfl, rfl, rfl, rfl⟩ := hs
      refine (hcalls _ hc1 (by simp)).mono ?_
      rintro en w2 ⟨ι2, v', rfl, hvv, hr2, ad2⟩
      exact ⟨ι2, ha.trans (hadd.2.trans ad2), hr2, (hf.mono hsub).mono ad2.sub, .pan hvv⟩
    · cases hs

theorem evRange_sound (hev : EvOK P V ev) {f : Operand} {ps : Array Tmp} {asg bd : Code} {e : Env} {ds : List ADef} {h : Heap} {x : AExit} {e' : Env} {ds' : List ADef} {h' : Heap} {w : World} {a : Act} {F : Fence}
    (hs : evRange P ev fr f ps asg bd e ds h = .ok x e' ds' h') (hr : HR ι h w.heap) (hf : FR V fr ι e ds a) (hF : FenR ι fr.rd F) :
    (Code.rangeFunc f ps asg bd).wpIn F 0 P (PostC V fr ι h w x e' ds' h') a w := by
  unfold evRange at hs
  refine wpIn_rangeFunc fun fn _ => ?_
  rcases hF.roundEq with ⟨hrd, hro⟩ | ⟨l, bil, hrd, hil, hro⟩
  · rw [hrd] at hs
    simp only at hs
    let bir : BI := ⟨w.heap.size, 0, 0⟩
    have hsub := hr.sub_upd bir
    have hadd := hr.add (o := .defd) (o' := .deferred (some [])) (bi := bir) rfl (by simp only [OR])
    have hir : upd ι h.nx bir h.nx = some bir := upd_same _ _ _
    have hf1 : FR V fr (upd ι h.nx bir) e (.coll h.nx :: ds) { a with defers := [{ target := .collected w.heap.size, args := #[] }] ++ a.defers } :=
      ⟨hf.env.mono hsub, hf.ei, hf.sz, .coll hir (hf.df.mono hsub)⟩
    obtain ⟨d, g, args, g1, g2, g3⟩ := rangeStart (F := F) (w := { w with heap := w.heap.push (.deferred (some [])) }) (a := a) (mark := [{ target := .collected w.heap.size, args := #[] }]) (bir := bir) hev hadd.1 hf1 (hF.mono hsub) hadd.2 hir hs fn
    refine ⟨_, _, _, d, _, g, args, _, ?_, g1, fun f' _ => hF.fn f', g2, (fun hd => by rw [hF.depth] at hd; cases hd), hF.calls g3⟩
    rw [hro]
    simp [Instr.enterLoop]
    rfl
  · rw [hrd] at hs
    simp only at hs
    split at hs
    case h_2 => cases hs
    rename_i st pend fn1 nt env ps1 as1 bd1 r hg
    obtain ⟨lc, hw, l1, l2, l4, l5, l6, l7, l8, bir, l9, l10⟩ := hr.loopAt hg hil
    have hf1 : FR V fr ι e ds { a with defers := [] ++ a.defers } := hf
    obtain ⟨d, g, args, g1, g2, g3⟩ := rangeStart (F := F) (w := w) (a := a) (mark := []) (bir := bir) hev hr hf1 hF (.refl _ _ _) l9 hs fn
    refine ⟨_, _, _, d, _, g, args, _, ?_, g1, fun f' _ => hF.fn f', g2, (fun hd => by rw [hF.depth] at hd; cases hd), hF.calls g3⟩
    rw [hro]
    simp only [Instr.enterLoop, Sem.run_bind, run_getLoop hw, Result.andThen_ok, Sem.run_pure, run_newObj, l10]
end

end Go.Dx
