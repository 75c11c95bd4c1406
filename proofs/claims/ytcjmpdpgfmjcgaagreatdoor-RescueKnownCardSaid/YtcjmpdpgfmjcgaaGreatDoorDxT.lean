/- DxT: the abstract run is sound, part 3: rounds of loops over functions; one operation; regions in the order of the text. -/
import Derived.Test.YtcjmpdpgfmjcgaaGreatDoorDxS
namespace Go.Dx
variable {P : Program} {V : Nat → Nat → Bool} {ι : Iota}

theorem eiOk_eq {fn : FuncId} {e : Env} (h : eiOk V fn e = true) : EI V fn e := by
  unfold eiOk at h
  simp only [Bool.and_eq_true, List.isEmpty_iff, List.all_eq_true] at h
  exact ⟨(fun p hp => by rw [h.1] at hp; cases hp), fun p hp => h.2 p hp⟩

theorem FenR.inRound {rd : Option Nat} {F : Fence} (h : FenR ι rd F) (b : Nat) : F.inRound b = Fence.wide.inRound b := by
  cases rd with
  | none => rw [h]
  | some l => obtain ⟨bi, _, rfl⟩ := h; rfl

theorem evYield_sound {ev : Ev} (hev : EvOK P V ev) {l : Nat} {args : List Value} {h : Heap} {r : VS} (hs : evYield V ev l args h = r) (hne : r ≠ .no) {w : World} {bi : BI} {args' : Array Value}
    (hr : HR ι h w.heap) (hi : ι l = some bi) (hv : VRL ι args args'.toList) {rd : Option Nat} {F : Fence} (hF : FenR ι rd F) :
    ∃ fn tmps assign body, (Instr.yield bi.blk args').run P w = .ok (.round bi.blk fn tmps assign body) w ∧ RoundIn F 0 P bi.blk fn tmps assign body w (PostV ι h w r) := by
  unfold evYield at hs
  split at hs
  case h_2 => exact absurd hs.symm hne
  rename_i pend fn nt env ps as bd df hg
  obtain ⟨lc, hw, l1, l2, l4, l5, l6, l7, l8, bi', l9, l10⟩ := hr.loopAt hg hi
  cases hei : eiOk V fn env
  · rw [hei] at hs; exact absurd hs.symm hne
  rw [hei] at hs
  simp only at hs
  split at hs
  case h_2 => exact absurd hs.symm hne
  rename_i e0 hz
  have hf0 := FR.env_loop (V := V) (fr := ⟨fn, nt, some l⟩) l5 (eiOk_eq hei) l4
  obtain ⟨hf1, hlen⟩ := zipP_sound hf0 hv hz
  refine ⟨lc.fn, (ps.toList.zip args'.toList).foldl (fun t (p, v) => t.setIfInBounds p v) lc.tmps, as, bd, ?_, ?_⟩
  · have hsz : ¬ args'.size ≠ ps.size := by
      have : ps.toList.length = args'.toList.length := hlen
      simp at this
      simp [this]
    simp only [Instr.yield, Sem.run_bind, run_getLoop hw, Result.andThen_ok, l6, hsz, if_false, Sem.run_pure, l7, l8]
    congr 3
    rw [← Array.foldl_toList, Array.toList_zip]
  split at hs
  case h_2 => exact absurd hs.symm hne
  rename_i e1 h1 hca
  split at hs
  case h_2 => exact absurd hs.symm hne
  rename_i pend1 fn1 nt1 env1 ps1 as1 bd1 df1 hg1
  split at hs
  case h_2 => exact absurd hs.symm hne
  rename_i x e2 ds2 h2 hcb
  split at hs
  case h_2 => exact absurd hs.symm hne
  rename_i j st2 pend2 fn2 nt2 env2 ps2 as2 bd2 df2 hj hg2
  subst hs
  have hF1 : FenR ι (some l) (F.inRound bi.blk) := ⟨bi, hi, hF.inRound _⟩
  refine roundIn_of_wpIn (hF.fn _) (wpIn_mono (hev.code hca hr hf1 hF1) ?_)
  rintro ex a1 w1 ⟨ι1, ad1, hr1, fr1, x1⟩
  cases x1
  have hi1 := ad1.sub _ _ hi
  obtain ⟨lc1, hw1, m1, m2, m4, m5, m6, m7, m8, bi1', m9, m10⟩ := hr1.loopAt hg1 hi1
  have hset := hr1.set (o2 := .loop .busy pend1 fn1 nt1 env1 ps1 as1 bd1 df1) (o2' := .loop { lc1 with state := .busy }) hg1 hi1 (by
    simp only [OR]
    exact ⟨trivial, m2, m4, m5, m6, m7, m8, bi1', m9, m10⟩)
  refine ⟨{ w1 with heap := w1.heap.setIfInBounds bi.blk (.loop { lc1 with state := .busy }) }, ?_, ?_⟩
  · simp only [Instr.beginRound, Sem.run_bind, run_getLoop hw1, Result.andThen_ok, run_setLoop hw1, m1, Sem.run_pure]
  have hF2 : FenR ι1 (some l) (F.inRound bi.blk) := hF1.mono ad1.sub
  refine wpIn_mono (hev.code hcb (w := { w1 with heap := w1.heap.setIfInBounds bi.blk (.loop { lc1 with state := .busy }) }) hset.1 fr1 hF2) ?_
  rintro ex2 a2 w2 ⟨ι2, ad2, hr2, fr2, x2⟩
  have hi2 := ad2.sub _ _ hi1
  obtain ⟨lc2, hw2, n1, n2, n4, n5, n6, n7, n8, bi2', n9, n10⟩ := hr2.loopAt hg2 hi2
  have hset2 := hr2.set (o2 := .loop (if j.isNone then .ready else .done) j fn2 nt2 env2 ps2 as2 bd2 df2) (o2' := .loop { lc2 with state := if j.isNone then .ready else .done, pending := j }) hg2 hi2 (by
    simp only [OR]
    exact ⟨trivial, trivial, n4, n5, n6, n7, n8, bi2', n9, n10⟩)
  refine jumpOf_post x2 hj ⟨.bool j.isNone, { w2 with heap := w2.heap.setIfInBounds bi.blk (.loop { lc2 with state := if j.isNone then .ready else .done, pending := j }) }, ?_, ?_⟩
  · simp only [Instr.endRound, Sem.run_bind, run_getLoop hw2, Result.andThen_ok, run_setLoop hw2, Sem.run_pure]
  · exact ⟨ι2, .bool j.isNone, rfl, .bool _, hset2.1, (ad1.trans hset.2).trans (ad2.trans hset2.2)⟩

/-! ### one operation -/
section
variable {ev : Ev} {fr : Fr} {ops : Array Oper} {o : Oper} {e e' : Env} {ds ds' : List ADef} {h h' : Heap} {x : AExit} {w : World} {a : Act} {F : Fence} {i : Nat} {K : Act → World → Prop} {Q : Exit → Act → World → Prop}

/-- What stands behind an operation takes what it comes to. -/
structure Takes (V : Nat → Nat → Bool) (fr : Fr) (o : Oper) (a : Act) (ι : Iota) (h : Heap) (w : World) (x : AExit) (e' : Env) (ds' : List ADef) (h' : Heap) (K : Act → World → Prop) (Q : Exit → Act → World → Prop) : Prop where
  normal : x = .normal → ∀ (ι' : Iota) (v' : Value) (a' : Act) (w' : World), a'.tmps = (a.put o.dst v').tmps → Adv ι h w ι' h' w' → HR ι' h' w'.heap → FR V fr ι' e' ds' a' → K a' w'
  pan : ∀ v, x = .pan v → ∀ (ι' : Iota) (v' : Value) (w' : World), Adv ι h w ι' h' w' → HR ι' h' w'.heap → FR V fr ι' e' ds' a → VR ι' v v' → Q (.panic [{ v := v', recovered := false }]) a w'

theorem put_tmps {a a0 : Act} (h : a.tmps = a0.tmps) (d : Option Tmp) (v : Value) : (a.put d v).tmps = (a0.put d v).tmps := by
  cases d <;> simp [Act.put, h]

theorem fin_sound {v v' : Value} (hs : fin V fr o v e ds h = .ok x e' ds' h') {ι1 : Iota} {h0 : Heap} {w0 w1 : World} {a0 : Act} (h00 : a.tmps = a0.tmps) (ha : Adv ι h0 w0 ι1 h w1) (hr : HR ι1 h w1.heap) (hf : FR V fr ι1 e ds a) (hv : VR ι1 v v')
    (hT : Takes V fr o a0 ι h0 w0 x e' ds' h' K Q) : K (a.put o.dst v') w1 := by
  unfold fin at hs
  split at hs
  · rename_i e1 hp
    simp only [CR.ok.injEq] at hs
    obtain ⟨rfl, rfl, rfl, rfl⟩ := hs
    exact hT.normal rfl ι1 v' _ w1 (put_tmps h00 _ _) ha hr (hf.put hv hp)
  · cases hs

theorem upon_opS (hF : FenR ι fr.rd F) (hnd : ∀ c, o.op ≠ .defer c) (hr : HR ι h w.heap) (hf : FR V fr ι e ds a) {v : Value} {h1 : Heap} (hO : OpS P ι h w (execOp a.eval o) v h1)
    (hs : fin V fr o v e ds h1 = .ok x e' ds' h') (hT : Takes V fr o a ι h w x e' ds' h' K Q) : o.wpIn F 0 P a w K Q := by
  obtain ⟨ι', v', w', hrun, hv, hr', ha⟩ := hO
  refine ⟨fun f _ => hF.fn f, ?_⟩
  rw [Oper.semAt_eq _ _ _ hnd]
  rcases hrun with hrun | ⟨hrun, rfl⟩
  · rw [hrun, Oper.uponIn_value]
    exact fin_sound hs rfl ha hr' (hf.mono ha.sub) hv hT
  · rw [hrun, Oper.uponIn_skip]
    exact fin_sound hs rfl ha hr' (hf.mono ha.sub) hv hT

theorem evDo_sound (hev : EvOK P V ev) (hs : evDo P V ev fr o e ds h = .ok x e' ds' h') (hr : HR ι h w.heap) (hf : FR V fr ι e ds a) (hF : FenR ι fr.rd F) (hT : Takes V fr o a ι h w x e' ds' h' K Q) :
    o.wpIn F 0 P a w K Q := by
  have hA : ∀ (hnd : ∀ c, o.op ≠ .defer c) (r : AR), finA V fr o r e ds = .ok x e' ds' h' → (∀ v h1, r = .ok v h1 → OpS P ι h w (execOp a.eval o) v h1) → o.wpIn F 0 P a w K Q := by
    intro hnd r hfa hO
    unfold finA at hfa
    split at hfa
    · rename_i v h1
      exact upon_opS hF hnd hr hf (hO v h1 rfl) hfa hT
    · cases hfa
  unfold evDo at hs
  split at hs
  · rename_i c hc
    have hnd : ∀ c', o.op ≠ .defer c' := fun c' he => by rw [hc] at he; cases he
    have hex : (execOp a.eval o).run P w = (do let d ← resolve a.eval c o.type; invoke d.target d.args : Sem Next).run P w := by unfold execOp; rw [hc]
    unfold evCallOp at hs
    cases hbi : isBuiltin c.callee
    · rw [hbi] at hs
      simp only at hs
      split at hs
      · rename_i g args hcall
        obtain ⟨args', hva, hrun⟩ := run_call_fn (P := P) hr hf.env hcall o.type
        refine ⟨fun f _ => hF.fn f, ?_⟩
        rw [Oper.semAt_eq _ _ _ hnd, hex, hrun, Oper.uponIn_enter]
        refine ⟨(fun hd => by rw [hF.depth] at hd; cases hd), ?_⟩
        unfold finV at hs
        split at hs
        · rename_i v h1 hev1
          refine hF.calls ((hev.call hev1 (by simp) hr hva).mono ?_)
          rintro en w1 ⟨ι1, v', rfl, hv, hr1, ha⟩
          exact fin_sound hs rfl ha hr1 (hf.mono ha.sub) hv hT
        · rename_i v h1 hev1
          simp only [CR.ok.injEq] at hs
          obtain ⟨rfl, rfl, rfl, rfl⟩ := hs
          refine hF.calls ((hev.call hev1 (by simp) hr hva).mono ?_)
          rintro en w1 ⟨ι1, v', rfl, hv, hr1, ha⟩
          exact hT.pan v rfl ι1 v' w1 ha hr1 (hf.mono ha.sub) hv
        · cases hs
      · rename_i l args hcall
        obtain ⟨bi, args', hi, hva, hrun⟩ := run_call_yield (P := P) hr hf.env hcall o.type
        unfold finV at hs
        split at hs
        · rename_i v h1 hev1
          obtain ⟨fn, tmps, asg, bd, hy, hround⟩ := evYield_sound (P := P) hev hev1 (by simp) hr hi hva hF
          refine ⟨fun f _ => hF.fn f, ?_⟩
          rw [Oper.semAt_eq _ _ _ hnd, hex, hrun, hy, Oper.uponIn_round]
          refine ⟨(fun hd => by rw [hF.depth] at hd; cases hd), hround.mono ?_⟩
          rintro en w1 ⟨ι1, v', rfl, hv, hr1, ha⟩
          exact fin_sound hs rfl ha hr1 (hf.mono ha.sub) hv hT
        · rename_i v h1 hev1
          simp only [CR.ok.injEq] at hs
          obtain ⟨rfl, rfl, rfl, rfl⟩ := hs
          obtain ⟨fn, tmps, asg, bd, hy, hround⟩ := evYield_sound (P := P) hev hev1 (by simp) hr hi hva hF
          refine ⟨fun f _ => hF.fn f, ?_⟩
          rw [Oper.semAt_eq _ _ _ hnd, hex, hrun, hy, Oper.uponIn_round]
          refine ⟨(fun hd => by rw [hF.depth] at hd; cases hd), hround.mono ?_⟩
          rintro en w1 ⟨ι1, v', rfl, hv, hr1, ha⟩
          exact hT.pan v rfl ι1 v' w1 ha hr1 (hf.mono ha.sub) hv
        · cases hs
      · exact hA hnd _ hs fun v h1 hq => aflat_sound hr hf.env hq
    · rw [hbi] at hs
      exact hA hnd _ hs fun v h1 hq => aop_sound hr hf.env hq
  · rename_i c hc
    unfold evDefer at hs
    split at hs
    · rename_i f hrd hcal
      split at hs
      · rename_i g first cap args h1 h2
        cases hb : bodied P g
        · rw [hb] at hs; cases hs
        rw [hb] at hs
        simp only at hs
        have hv := opv_sound hr hf.env h1
        have hl := opvl_sound hr hf.env h2
        generalize hz : a.eval f = z at hv
        cases hv with
        | fn _ hfirst hcap =>
          rename_i first' cap'
          refine ⟨fun f _ => hF.fn f, ?_⟩
          have hro : F.round = none := (hF.round).2 hrd
          rw [hro, Oper.semAt_none]
          have hrun : (execOp a.eval o).run P w = .ok (.defer { target := .fn (.func g) cap', args := first' ++ c.args.map a.eval }) w := by
            unfold execOp
            rw [hc]
            simp only [resolve, hcal, hz, Deferred.ofValue, Sem.run_bind, Sem.run_pure, Result.andThen_ok]
          rw [hrun, Oper.uponIn_defer]
          have hf2 : FR V fr ι e (.fn g (first ++ args) cap :: ds) { a with defers := { target := .fn (.func g) cap', args := first' ++ c.args.map a.eval } :: a.defers } := by
            refine ⟨hf.env, hf.ei, hf.sz, .fn g ?_ hcap hf.df⟩
            have : (first' ++ c.args.map a.eval).toList = first'.toList ++ c.args.toList.map a.eval := by simp
            rw [this]; exact hfirst.append hl
          exact fin_sound (a0 := a) hs rfl (.refl _ _ _) hr hf2 (.tup .nil) hT
      · cases hs
    · cases hs
  · rename_i y hy
    unfold evPanic at hs
    split at hs
    · rename_i t v hv0
      simp only [CR.ok.injEq] at hs
      obtain ⟨rfl, rfl, rfl, rfl⟩ := hs
      have hv := opv_sound hr hf.env hv0
      generalize hz : a.eval y = z at hv
      cases hv with
      | iface _ hv1 =>
        rename_i v'
        refine ⟨fun f _ => hF.fn f, ?_⟩
        rw [Oper.semAt_eq _ _ _ (fun c he => by rw [hy] at he; cases he)]
        have hrun : (execOp a.eval o).run P w = .halt (.panic (.iface t v')) w := by
          unfold execOp
          rw [hy]
          simp [hz, Instr.panic]
        rw [hrun, Oper.uponIn_panic]
        exact hT.pan _ rfl ι _ w (.refl _ _ _) hr hf (.iface t hv1)
    · cases hs
  · rename_i hnc hndf hnp
    exact hA (fun c he => hndf c he) _ hs fun v h1 hq => aop_sound hr hf.env hq

theorem evOp_sound (hev : EvOK P V ev) (ho : ops[i]? = some o) (hs : evOp P V ev fr ops.toList o e ds h = .ok x e' ds' h') (hr : HR ι h w.heap) (hf : FR V fr ι e ds a) (hF : FenR ι fr.rd F)
    (hT : Takes V fr o a ι h w x e' ds' h' K Q) : wpOpIn F 0 P ops Q i K a w := by
  unfold evOp at hs
  unfold wpOpIn
  simp only [ho]
  split at hs
  · rename_i hg
    rw [gd_sound hf hg]
    simp only [if_true]
    exact evDo_sound hev hs hr hf hF hT
  · rename_i hg
    rw [gd_sound hf hg]
    simp only [Bool.false_eq_true, if_false]
    exact ⟨fun f _ => hF.fn f, fin_sound hs rfl (.refl _ _ _) hr hf (.tup .nil) hT⟩
  · cases hs
end

end Go.Dx
