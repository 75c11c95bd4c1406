/- DxI: operations of the abstract run, part 6: slice expressions, a block under a new number. -/
import Derived.Test.YtcjmpdpgfmjcgaaGreatDoorDxH
namespace Go.Dx
variable {P : Program}

inductive OVR (ι : Iota) : Option Value → Option Value → Prop where
  | none : OVR ι none none
  | some {v v' : Value} : VR ι v v' → OVR ι (some v) (some v')

noncomputable def bnd (ov : Option Value) (dflt y : Nat) : Option Nat :=
  match ov with
  | none => some dflt
  | some v => match natOf v with
    | some n => @Bool.casesOn (fun _ => Option Nat) (Nat.ble n y) none (some n)
    | none => none
theorem bnd_some {v : Value} {d y n : Nat} (h : bnd (some v) d y = some n) : ∃ k, v = .int k (Int.ofNat n) ∧ n ≤ y := by
  simp only [bnd] at h
  split at h
  · rename_i m hm
    obtain ⟨k, rfl⟩ := natOf_eq hm
    cases hb : Nat.ble m y
    · rw [hb] at h; cases h
    · rw [hb] at h; cases h; exact ⟨k, rfl, Nat.le_of_ble_eq_true hb⟩
  · cases h
theorem run_sliceBound {k : IntKind} {n y : Nat} (h : n ≤ y) (code : BoundsCode) (w : World) : (Instr.sliceBound (.int k (Int.ofNat n)) y code).run P w = .ok n w := by
  have : (n : Int) ≤ (y : Int) := by omega
  simp [Instr.sliceBound, asIntOf, this]

theorem run_sliceBoundC {k : IntKind} {n y : Nat} (h : n ≤ y) (code : BoundsCode) (w : World) : (Instr.sliceBound (.int k (n : Int)) y code).run P w = .ok n w := run_sliceBound h code w

noncomputable def sb (len cap : Nat) (lo hi mx : Option Value) : Option (Nat × Nat × Nat) :=
  match bnd mx cap cap with
  | some m =>
    match hi, mx with
    | none, some _ => none
    | _, _ =>
      match bnd hi len m with
      | some h => match bnd lo 0 h with
        | some l => some (l, h, m)
        | none => none
      | none => none
  | none => none

theorem sb_run {ι : Iota} {len cap cap' : Nat} {lo hi mx lo' hi' mx' : Option Value} (hlo : OVR ι lo lo') (hhi : OVR ι hi hi') (hmx : OVR ι mx mx') {l h m : Nat} (hs : sb len cap lo hi mx = some (l, h, m)) (hc : cap ≤ cap')
    (isS : Bool) (w : World) : (Instr.sliceBounds isS len cap' lo' hi' mx').run P w = .ok (l, h, if mx.isNone then cap' else m) w ∧ (mx.isSome → m ≤ cap) ∧ (mx = none → m = cap) ∧ (lo = none → l = 0) ∧ (hi.isSome → h ≤ m) ∧ (lo.isSome → l ≤ h) := by
  unfold sb at hs
  split at hs
  · rename_i m1 hm
    cases hmx with
    | none =>
      simp only [bnd, Option.some.injEq] at hm
      subst hm
      cases hhi with
      | none =>
        simp only [bnd] at hs
        cases hlo with
        | none =>
          simp only [Option.some.injEq, Prod.mk.injEq] at hs
          obtain ⟨rfl, rfl, rfl⟩ := hs
          simp [Instr.sliceBounds]
        | some hv =>
          split at hs
          · rename_i l1 hl
            simp only [Option.some.injEq, Prod.mk.injEq] at hs
            obtain ⟨rfl, rfl, rfl⟩ := hs
            obtain ⟨k, rfl, hle⟩ := bnd_some (d := 0) hl
            cases hv
            simp [Instr.sliceBounds, run_sliceBoundC hle, hle]
          · cases hs
      | some hv =>
        simp only at hs
        split at hs
        · rename_i h1 hh
          obtain ⟨k, rfl, hle⟩ := bnd_some hh
          cases hv
          have hle' : h1 ≤ cap' := by omega
          cases hlo with
          | none =>
            simp only [bnd, Option.some.injEq, Prod.mk.injEq] at hs
            obtain ⟨rfl, rfl, rfl⟩ := hs
            simp [Instr.sliceBounds, run_sliceBoundC hle', hle]
          | some hv =>
            split at hs
            · rename_i l1 hl
              simp only [Option.some.injEq, Prod.mk.injEq] at hs
              obtain ⟨rfl, rfl, rfl⟩ := hs
              obtain ⟨k, rfl, hle2⟩ := bnd_some hl
              cases hv
              simp [Instr.sliceBounds, run_sliceBoundC hle', run_sliceBoundC hle2, hle, hle2]
            · cases hs
        · cases hs
    | some hv =>
      obtain ⟨k, rfl, hle⟩ := bnd_some hm
      cases hv
      have hle' : m1 ≤ cap' := by omega
      cases hhi with
      | none => simp only at hs; cases hs
      | some hv =>
        simp only at hs
        split at hs
        · rename_i h1 hh
          obtain ⟨k, rfl, hle3⟩ := bnd_some hh
          cases hv
          cases hlo with
          | none =>
            simp only [bnd, Option.some.injEq, Prod.mk.injEq] at hs
            obtain ⟨rfl, rfl, rfl⟩ := hs
            simp [Instr.sliceBounds, run_sliceBoundC hle', run_sliceBoundC hle3, hle3, hle]
          | some hv =>
            split at hs
            · rename_i l1 hl
              simp only [Option.some.injEq, Prod.mk.injEq] at hs
              obtain ⟨rfl, rfl, rfl⟩ := hs
              obtain ⟨k, rfl, hle2⟩ := bnd_some hl
              cases hv
              simp [Instr.sliceBounds, run_sliceBoundC hle', run_sliceBoundC hle2, run_sliceBoundC hle3, hle3, hle2, hle]
            · cases hs
        · cases hs
  · cases hs

noncomputable def aslice (P : Program) (t : TypeId) (x : Value) (lo hi mx : Option Value) : Option Value :=
  match P.underlying t, x with
  | some (.slice elem), .slice (some ⟨b, o, none⟩) len cap =>
    match sb len cap lo hi mx, tsz P elem with
    | some (l, h, m), some n => some (.slice (some ⟨b, @Bool.casesOn (fun _ => Nat) (Nat.beq m l) (Nat.add o (Nat.mul l n)) o, none⟩) (Nat.sub h l) (Nat.sub m l))
    | _, _ => none
  | some (.slice elem), .slice (some ⟨b, o, some (sz0 + 1)⟩) len cap =>
    let sz := sz0 + 1
    match sb len cap lo hi mx, tsz P elem with
    | some (l, h, m), some n =>
      match mx with
      | some _ => some (.slice (some ⟨b, @Bool.casesOn (fun _ => Nat) (Nat.beq m l) (Nat.add o (Nat.mul l n)) o, none⟩) (Nat.sub h l) (Nat.sub m l))
      | none =>
        @Bool.casesOn (fun _ => Option Value) (Nat.blt 0 sz) none
        (@Bool.casesOn (fun _ => Option Value) (Nat.beq n sz) none
          (@Bool.casesOn (fun _ => Option Value) (Nat.beq l 0)
            (@Bool.casesOn (fun _ => Option Value) (Nat.blt l cap)
              (@Bool.casesOn (fun _ => Option Value) (Nat.beq h l) none (some (.slice (some ⟨b, 0, some 0⟩) 0 0)))
              (some (.slice (some ⟨b, Nat.add o (Nat.mul l n), some sz⟩) (Nat.sub h l) (Nat.sub m l))))
            (some (.slice (some ⟨b, o, some sz⟩) h m))))
    | _, _ => none
  | some (.array n0 elem), .pointer (some ⟨b, o, none⟩) =>
    match sb n0 n0 lo hi mx, tsz P elem with
    | some (l, h, m), some n => some (.slice (some ⟨b, @Bool.casesOn (fun _ => Nat) (Nat.beq m l) (Nat.add o (Nat.mul l n)) o, none⟩) (Nat.sub h l) (Nat.sub m l))
    | _, _ => none
  | _, _ => none

theorem beqOff (m l o n : Nat) (b : Nat) : (if m = l then (⟨b, o, none⟩ : Addr) else (⟨b, o, none⟩ : Addr).add (l * n)) = ⟨b, @Bool.casesOn (fun _ => Nat) (Nat.beq m l) (Nat.add o (Nat.mul l n)) o, none⟩ := by
  cases hb : Nat.beq m l
  · have : m ≠ l := by intro e; subst e; simp at hb
    rw [if_neg this, add_none]; rfl
  · rw [if_pos (Nat.eq_of_beq_eq_true hb)]

theorem aslice_sound {ι : Iota} {t : TypeId} {x x' v : Value} {lo hi mx lo' hi' mx' : Option Value} (hx : VR ι x x') (hlo : OVR ι lo lo') (hhi : OVR ι hi hi') (hmx : OVR ι mx mx') (hs : aslice P t x lo hi mx = some v) (w : World) :
    ∃ v', (Instr.sliceAt t x' lo' hi' mx').run P w = .ok v' w ∧ VR ι v v' := by
  unfold aslice at hs
  split at hs
  · rename_i elem b o len cap hu
    cases hx with
    | @sl _ _ _ _ bi hb =>
      split at hs
      · rename_i l h m n hsb hn
        cases hs
        obtain ⟨hrun, _, hm0, _⟩ := sb_run (P := P) hlo hhi hmx hsb (Nat.le_refl _) true w
        have hm : (if mx.isNone = true then cap else m) = m := by
          cases mx with
          | none => simp [hm0 rfl]
          | some _ => rfl
        rw [hm] at hrun
        refine ⟨_, ?_, .sl hb⟩
        simp only [Instr.sliceAt, Instr.slice, Sem.run_bind, run_underlying hu, Result.andThen_ok, hrun, run_sizeOf hn, Sem.run_pure, Option.map_some]
        rw [← beqOff m l o n bi.blk]
        split <;> rfl
      · cases hs
  · rename_i elem b o sz0 len cap hu
    obtain ⟨cap', bi, hb, rfl, hsz, hcnt, hle⟩ : ∃ cap' bi, ι b = some bi ∧ x' = .slice (some ⟨bi.blk, o, none⟩) len cap' ∧ sz0 + 1 = bi.sz ∧ o + cap' * bi.sz = bi.cnt ∧ cap ≤ cap' := by
      generalize hq : (some (sz0 + 1) : Option Nat) = q at hx
      cases hx with
      | sl => cases hq
      | @slo _ _ _ _ cap' bi hb hcnt hle => exact ⟨cap', bi, hb, rfl, Option.some.inj hq, hcnt, hle⟩
      | sle => exact absurd (Option.some.inj hq) (by omega)
    simp only [hsz] at hs
    clear hx
    · split at hs
      · rename_i l h m n hsb hn
        obtain ⟨hrun, hmc, hm0, hl0, hhm, hlh⟩ := sb_run (P := P) hlo hhi hmx hsb hle true w
        split at hs
        · cases hs
          cases hmx with
          | some hv =>
          simp only [Option.isNone_some, Bool.false_eq_true, if_false] at hrun
          refine ⟨_, ?_, .sl hb⟩
          simp only [Instr.sliceAt, Instr.slice, Sem.run_bind, run_underlying hu, Result.andThen_ok, hrun, run_sizeOf hn, Sem.run_pure, Option.map_some]
          rw [← beqOff m l o n bi.blk]
          split <;> rfl
        · cases hmx
          have hmeq := hm0 rfl
          subst hmeq
          simp only [Option.isNone_none, if_true] at hrun
          cases h0 : Nat.blt 0 bi.sz
          · rw [h0] at hs; cases hs
          rw [h0] at hs
          cases h1 : Nat.beq n bi.sz
          · rw [h1] at hs; cases hs
          rw [h1] at hs
          have hnz := Nat.eq_of_beq_eq_true h1
          subst hnz
          cases h2 : Nat.beq l 0
          · rw [h2] at hs
            cases h3 : Nat.blt l m
            · rw [h3] at hs
              cases h4 : Nat.beq h l
              · rw [h4] at hs; cases hs
              rw [h4] at hs
              cases hs
              have hhl := Nat.eq_of_beq_eq_true h4
              subst hhl
              refine ⟨.slice (some (if cap' = h then ⟨bi.blk, o, none⟩ else ⟨bi.blk, o + h * bi.sz, none⟩)) 0 (cap' - h), ?_, .sle _ _ _⟩
              simp only [Instr.sliceAt, Instr.slice, Sem.run_bind, run_underlying hu, Result.andThen_ok, hrun, run_sizeOf hn, Sem.run_pure, Option.map_some, add_none, Nat.sub_self]
              split <;> rfl
            rw [h3] at hs
            cases hs
            have hlt : l < m := Nat.le_of_ble_eq_true h3
            refine ⟨.slice (some ⟨bi.blk, o + l * bi.sz, none⟩) (h - l) (cap' - l), ?_, ?_⟩
            · simp only [Instr.sliceAt, Instr.slice, Sem.run_bind, run_underlying hu, Result.andThen_ok, hrun, run_sizeOf hn, Sem.run_pure, Option.map_some]
              rw [if_neg (by omega), add_none]
            · refine .slo hb ?_ (by show m - l ≤ cap' - l; omega)
              show o + l * bi.sz + (cap' - l) * bi.sz = bi.cnt
              rw [Nat.add_assoc, ← Nat.add_mul, show l + (cap' - l) = cap' by omega]
              exact hcnt
          · rw [h2] at hs
            cases hs
            have hl := Nat.eq_of_beq_eq_true h2
            subst hl
            refine ⟨.slice (some ⟨bi.blk, o, none⟩) h cap', ?_, .slo hb hcnt hle⟩
            simp only [Instr.sliceAt, Instr.slice, Sem.run_bind, run_underlying hu, Result.andThen_ok, hrun, run_sizeOf hn, Sem.run_pure, Option.map_some]
            simp [add_none]
      · cases hs
  · rename_i n0 elem b o hu
    cases hx with
    | @ptr _ _ bi hb =>
      split at hs
      · rename_i l h m n hsb hn
        cases hs
        obtain ⟨hrun, _, hm0, _⟩ := sb_run (P := P) hlo hhi hmx hsb (Nat.le_refl _) false w
        have hm : (if mx.isNone = true then n0 else m) = m := by
          cases mx with
          | none => simp [hm0 rfl]
          | some _ => rfl
        rw [hm] at hrun
        refine ⟨_, ?_, .sl hb⟩
        simp only [Instr.sliceAt, Instr.sureAddr, Sem.run_bind, run_underlying hu, Result.andThen_ok, hrun, run_sizeOf hn, Sem.run_pure]
        rw [← beqOff m l o n bi.blk]
        split <;> rfl
      · cases hs
  · cases hs

/-- A block is spoken of under a new number. -/
theorem HR.move {ι : Iota} {h : Heap} {w : World} (hr : HR ι h w.heap) {b : Nat} {o : AO} {bi : BI} (hg : h.get b = some o) (hi : ι b = some bi) :
    HR (upd ι h.nx bi) ((h.del b).add o) w.heap ∧ Adv ι h w (upd ι h.nx bi) ((h.del b).add o) w := by
  have hsub := hr.sub_upd bi
  have hbn : b < h.nx := hr.fresh b bi hi
  have hnx : (h.del b).nx = h.nx := rfl
  have hdom : ∀ c x, ((h.del b).add o).get c = some x → (c = h.nx ∧ x = o) ∨ (c ≠ h.nx ∧ c ≠ b ∧ h.get c = some x) := by
    intro c x hx
    by_cases e : c = h.nx
    · subst e
      have := Heap.get_add_same (h := h.del b) (o := o)
      rw [hnx] at this
      rw [this] at hx; cases hx; exact .inl ⟨rfl, rfl⟩
    · rw [Heap.get_add_other (by rw [hnx]; exact e)] at hx
      by_cases e2 : c = b
      · subst e2; rw [Heap.get_del_same] at hx; cases hx
      · rw [Heap.get_del_other e2] at hx; exact .inr ⟨e, e2, hx⟩
  obtain ⟨bi', o', e1, e2, e3⟩ := hr.obj b o hg
  rw [hi] at e1; cases e1
  constructor
  · constructor
    · intro c x hx
      rcases hdom c x hx with ⟨rfl, rfl⟩ | ⟨h1, h2, h3⟩
      · exact ⟨bi, o', upd_same _ _ _, e2, e3.mono hsub⟩
      · obtain ⟨bi2, x', i1, i2, i3⟩ := hr.obj c x h3
        exact ⟨bi2, x', hsub _ _ i1, i2, i3.mono hsub⟩
    · intro c c' x x' bi1 bi2 g1 g2 i1 i2 heq
      rcases hdom c x g1 with ⟨rfl, rfl⟩ | ⟨h1, h2, h3⟩ <;> rcases hdom c' x' g2 with ⟨rfl, rfl⟩ | ⟨h1', h2', h3'⟩
      · rfl
      · exfalso
        rw [upd_same] at i1; cases i1
        rw [upd_other _ _ h1'] at i2
        exact h2' (hr.inj b c' x x' bi bi2 hg h3' hi i2 heq).symm
      · exfalso
        rw [upd_same] at i2; cases i2
        rw [upd_other _ _ h1] at i1
        exact h2 (hr.inj c b x x' bi1 bi h3 hg i1 hi heq)
      · rw [upd_other _ _ h1] at i1; rw [upd_other _ _ h1'] at i2
        exact hr.inj c c' x x' bi1 bi2 h3 h3' i1 i2 heq
    · intro c x hx
      show c < h.nx + 1
      by_cases e : c = h.nx
      · omega
      · rw [upd_other _ _ e] at hx; have := hr.fresh c x hx; omega
    · intro g x hgl hx
      have hgl' : g < h.gl := hgl
      have := hr.gn
      rw [upd_other _ _ (by omega)] at hx
      exact hr.glo g x hgl' hx
    · exact Nat.le_succ_of_le hr.gn
  · constructor
    · exact hsub
    · exact Nat.le_refl _
    · intro c _ _; rfl
    · rintro c ⟨d, x, bi1, g1, i1, rfl⟩ _
      rcases hdom d x g1 with ⟨rfl, rfl⟩ | ⟨h1, h2, h3⟩
      · rw [upd_same] at i1; cases i1; exact ⟨b, x, bi, hg, hi, rfl⟩
      · rw [upd_other _ _ h1] at i1; exact ⟨d, x, bi1, h3, i1, rfl⟩
    · exact Nat.le_succ _
    · exact fun c hc => upd_other _ _ (Nat.ne_of_lt hc)
    · rfl
    · rfl
    · rfl
    · exact fun _ h => h

end Go.Dx
