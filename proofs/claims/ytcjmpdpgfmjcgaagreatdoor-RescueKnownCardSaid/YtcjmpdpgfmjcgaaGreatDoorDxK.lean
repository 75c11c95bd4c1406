/- DxK: operations of the abstract run, part 8: append and copy in the abstract heap. -/
import Derived.Test.YtcjmpdpgfmjcgaaGreatDoorDxJ
namespace Go.Dx
variable {P : Program}

theorem Rg.congr {ι : Iota} {h1 h2 : Heap} (hg : ∀ c, h1.get c = h2.get c) {c : Nat} (h : Rg ι h1 c) : Rg ι h2 c := by
  obtain ⟨b, o, bi, a, b', c'⟩ := h
  exact ⟨b, o, bi, by rw [← hg]; exact a, b', c'⟩
theorem HR.congr {ι : Iota} {h1 h2 : Heap} {hp : Array Obj} (hg : ∀ c, h1.get c = h2.get c) (hn : h1.nx = h2.nx) (hgl : h1.gl = h2.gl) (h : HR ι h1 hp) : HR ι h2 hp where
  obj := fun b o ho => h.obj b o (by rw [hg]; exact ho)
  inj := fun b b' o o' bi bi' a c => h.inj b b' o o' bi bi' (by rw [hg]; exact a) (by rw [hg]; exact c)
  fresh := fun b bi hb => by rw [← hn]; exact h.fresh b bi hb
  glo := fun g bi hgl' => h.glo g bi (by rw [hgl]; exact hgl')
  gn := by rw [← hn, ← hgl]; exact h.gn
theorem Adv.congr {ι ι' : Iota} {h h1 h2 : Heap} {w w' : World} (hg : ∀ c, h1.get c = h2.get c) (hn : h1.nx = h2.nx) (hgl : h1.gl = h2.gl) (a : Adv ι h w ι' h1 w') : Adv ι h w ι' h2 w' :=
  ⟨a.sub, a.sz, a.fr, fun c hr => a.dm c (hr.congr fun c => (hg c).symm), by rw [← hn]; exact a.nx, a.old, by rw [← hgl]; exact a.gl, a.os, a.out, a.fz⟩

theorem get_delset {h : Heap} {b : Nat} (o o2 : AO) (c : Nat) : (((h.set b o2).del b).add o).get c = ((h.del b).add o).get c := by
  by_cases e : c = h.nx
  · subst e
    have h1 := Heap.get_add_same (h := (h.set b o2).del b) (o := o)
    have h2 := Heap.get_add_same (h := h.del b) (o := o)
    exact h1.trans h2.symm
  · rw [Heap.get_add_other (h := (h.set b o2).del b) e, Heap.get_add_other (h := h.del b) e]
    by_cases e2 : c = b
    · subst e2; rw [Heap.get_del_same, Heap.get_del_same]
    · rw [Heap.get_del_other e2, Heap.get_del_other e2, Heap.get_set_other _ e2]

/-- A new row whose capacity is not known. -/
noncomputable def aopen (vs : List Value) (elem : TypeId) (n size : Nat) (h : Heap) : AR :=
  .ok (.slice (some ⟨h.nx, 0, some size⟩) n n) (h.add (.cells vs elem true))
theorem aopen_sound {ι : Iota} {h h' : Heap} {w : World} (hr : HR ι h w.heap) {vs vs' rest : List Value} {elem : TypeId} {n size c : Nat} {r : Value} (hv : VRL ι vs vs') (hlen : vs'.length = n * size)
    (hrest : rest.length = (c - n) * size) (hle : n ≤ c) (hs : aopen vs elem n size h = .ok r h') :
    ∃ ι', VR ι' r (.slice (some ⟨w.heap.size, 0, none⟩) n c) ∧ HR ι' h' (w.heap.push (.cells (vs' ++ rest).toArray elem)) ∧ Adv ι h w ι' h' { w with heap := w.heap.push (.cells (vs' ++ rest).toArray elem) } := by
  unfold aopen at hs
  · simp only [AR.ok.injEq] at hs
    obtain ⟨rfl, rfl⟩ := hs
    let bi : BI := ⟨w.heap.size, c * size, size⟩
    have hsub := hr.sub_upd bi
    have hcnt : n * size + (c - n) * size = c * size := by rw [← Nat.add_mul, show n + (c - n) = c by omega]
    have hl := hv.length
    have := hr.add (o := .cells vs elem true) (o' := .cells (vs' ++ rest).toArray elem) (bi := bi) rfl (by
      simp only [OR]
      refine ⟨trivial, trivial, by simp [bi, hlen, hrest, hcnt], by simp; omega, (fun h => nomatch h), ?_⟩
      rw [hl, List.take_append_of_le_length (Nat.le_refl _), List.take_length]
      exact hv.mono hsub)
    refine ⟨_, ?_, this.1, this.2⟩
    have h1 : upd ι h.nx bi h.nx = some bi := upd_same _ _ _
    have := VR.slo (ι := upd ι h.nx bi) (o := 0) (l := n) (c := n) (c' := c) h1 (by simp [bi]) hle
    exact this

noncomputable def aappend (P : Program) (sType xType : TypeId) (s x : Value) (h : Heap) : AR :=
  match P.underlying sType with
  | some (.slice elem) =>
    match P.info? elem, zeroOf P elem with
    | some i, some z =>
      @Bool.casesOn (fun _ => AR) (Nat.beq z.cells.toList.length i.size) .no
      (@Bool.casesOn (fun _ => AR) (Nat.blt 0 i.size) .no
      (match asrc P elem i.size xType x h with
       | some (n, l) =>
         match s with
         | .slice none sLen sCap =>
           @Bool.casesOn (fun _ => AR) (Nat.ble (Nat.add sLen n) sCap)
             (@Bool.casesOn (fun _ => AR) (Nat.beq sLen 0) .no
               (@Bool.casesOn (fun _ => AR) (Nat.ble (Nat.mul (Nat.add (Nat.mul 2 (Nat.add sLen n)) 192) i.bytes) 281474976710656) .no
                 (@Bool.casesOn (fun _ => AR) (Nat.blt (Nat.add sLen n) 281474976710656) .no (aopen l elem n i.size h))))
             (.ok (.slice none (Nat.add sLen n) sCap) h)
         | .slice (some ⟨_, _, some 0⟩) _ _ => .no
         | .slice (some ⟨b, o, sp⟩) sLen sCap =>
           match h.get b with
           | some (.cells vs e op) =>
             @Bool.casesOn (fun _ => AR) (allOne l) .no
             (@Bool.casesOn (fun _ => AR) (Nat.ble (Nat.add sLen n) sCap)
               (@Bool.casesOn (fun _ => AR) (Nat.ble (Nat.mul (Nat.add (Nat.mul 2 (Nat.add sLen n)) 192) i.bytes) 281474976710656) .no
               (@Bool.casesOn (fun _ => AR) (Nat.blt (Nat.add sLen n) 281474976710656) .no
                 (match cut vs o (Nat.mul sLen i.size) with
                  | some old =>
                    match sp with
                    | none => aopen (old ++ l) elem (Nat.add sLen n) i.size h
                    | some sz =>
                      @Bool.casesOn (fun _ => AR) (Nat.beq sz i.size) .no
                      (@Bool.casesOn (fun _ => AR) (Nat.beq o 0) .no
                      (@Bool.casesOn (fun _ => AR) (Nat.beq e elem) .no (aopen (old ++ l) elem (Nat.add sLen n) i.size (h.del b))))
                  | none => .no)))
               (match lay vs (Nat.add o (Nat.mul sLen i.size)) l with
                | some r => .ok (.slice (some ⟨b, o, sp⟩) (Nat.add sLen n) sCap) (h.set b (.cells r e op))
                | none => .no))
           | some (.ro lim ob) =>
             match sp with
             | some _ => .no
             | none =>
               @Bool.casesOn (fun _ => AR) (Nat.ble (Nat.add sLen n) sCap)
                 (@Bool.casesOn (fun _ => AR) (Nat.ble (Nat.mul (Nat.add (Nat.mul 2 (Nat.add sLen n)) 192) i.bytes) 281474976710656) .no
                 (@Bool.casesOn (fun _ => AR) (Nat.blt (Nat.add sLen n) 281474976710656) .no
                   (match rdo lim ob o (Nat.mul sLen i.size) with
                    | some old => aopen (old ++ l) elem (Nat.add sLen n) i.size h
                    | none => .no)))
                 (@Bool.casesOn (fun _ => AR) (Nat.beq n 0) .no (.ok (.slice (some ⟨b, o, none⟩) sLen sCap) h))
           | _ => .no
         | _ => .no
       | none => .no))
    | _, _ => .no
  | _ => .no

theorem aappend_sound {ι : Iota} {h h' : Heap} {w : World} (hr : HR ι h w.heap) {argTypes : Array TypeId} {args' : Array Value} {ty sType xType : TypeId} {s s' x x' v : Value}
    (h0 : argTypes[0]? = some sType) (h1 : argTypes[1]? = some xType) (a0 : args'[0]? = some s') (a1 : args'[1]? = some x') (hsv : VR ι s s') (hxv : VR ι x x') (hs : aappend P sType xType s x h = .ok v h') :
    ∃ ι' v' w', (Builtin.append_ argTypes ty args').run P w = .ok v' w' ∧ VR ι' v v' ∧ HR ι' h' w'.heap ∧ Adv ι h w ι' h' w' := by
  unfold aappend at hs
  split at hs
  case h_2 => cases hs
  rename_i elem hu
  split at hs
  case h_2 => cases hs
  rename_i i z hi hz
  cases c1 : Nat.beq z.cells.toList.length i.size
  · rw [c1] at hs; cases hs
  rw [c1] at hs
  cases c2 : Nat.blt 0 i.size
  · rw [c2] at hs; cases hs
  rw [c2] at hs
  simp only at hs
  split at hs
  case h_2 => cases hs
  rename_i n l hsrc0
  have hsrc := asrc_sound (P := P) hr hxv hsrc0
  obtain ⟨hf, hzr⟩ := zeroOf_eq hz
  have hzs : z.cells.size = i.size := by rw [← Nat.eq_of_beq_eq_true c1]; exact Array.length_toList.symm
  have hpos : 0 < i.size := Nat.le_of_ble_eq_true c2
  have hsz : tsz P elem = some i.size := by simp [tsz, hi]
  split at hs
  · -- nil
    rename_i sLen sCap
    cases hsv
    cases c3 : Nat.ble (Nat.add sLen n) sCap
    · rw [c3] at hs
      have hgrow : ¬ sLen + n ≤ sCap := fun hle => by
        have : Nat.ble (Nat.add sLen n) sCap = true := Nat.ble_eq_true_of_le hle
        rw [c3] at this; cases this
      cases c4 : Nat.beq sLen 0
      · rw [c4] at hs; cases hs
      rw [c4] at hs
      cases c5 : Nat.ble (Nat.mul (Nat.add (Nat.mul 2 (Nat.add sLen n)) 192) i.bytes) 281474976710656
      · rw [c5] at hs; cases hs
      rw [c5] at hs
      cases c6 : Nat.blt (Nat.add sLen n) 281474976710656
      · rw [c6] at hs; cases hs
      rw [c6] at hs
      simp only at hs
      have hl0 := Nat.eq_of_beq_eq_true c4
      subst hl0
      obtain ⟨l', nc, rest, e1, e2, e3, e4, e5⟩ := run_append_grows (P := P) (old := []) (ty := ty) h0 h1 a0 a1 hu hsz hi hzr hzs hpos hsrc hgrow (Nat.le_of_ble_eq_true c5) (Nat.le_of_ble_eq_true c6)
        (fun w1 _ => by simp [Builtin.firstCells])
      rw [Nat.zero_add] at e3 e4 e5
      obtain ⟨ι', b1, b2, b3⟩ := aopen_sound hr e1 e2 e4 e3 hs
      refine ⟨ι', _, _, e5, b1, ?_, ?_⟩
      · simpa using b2
      · exact b3.alike rfl rfl rfl
    · rw [c3] at hs
      simp only [AR.ok.injEq] at hs
      obtain ⟨rfl, rfl⟩ := hs
      obtain ⟨l', e1, e2, e3⟩ := run_append_fits (P := P) (ty := ty) h0 h1 a0 a1 hu hsz hsrc (Nat.le_of_ble_eq_true c3)
      exact ⟨ι, _, w, e3, .sl0 _ _, hr, .refl _ _ _⟩
  · cases hs
  · rename_i b o sp sLen sCap hsp0
    split at hs
    case h_3 => cases hs
    case h_2 =>
      rename_i lim ob hg
      cases sp with
      | some _ => cases hs
      | none =>
      cases hsv with
      | @sl _ _ _ _ bi hb =>
      simp only at hs
      cases c4 : Nat.ble (Nat.add sLen n) sCap
      · rw [c4] at hs
        cases c5 : Nat.ble (Nat.mul (Nat.add (Nat.mul 2 (Nat.add sLen n)) 192) i.bytes) 281474976710656
        · rw [c5] at hs; cases hs
        rw [c5] at hs
        cases c6 : Nat.blt (Nat.add sLen n) 281474976710656
        · rw [c6] at hs; cases hs
        rw [c6] at hs
        simp only at hs
        split at hs
        case h_2 => cases hs
        rename_i old hro
        obtain ⟨c, e, fz, hw, hlec, hl, hvr⟩ := hr.rdo hg hb hro
        change o + sLen * i.size ≤ c.size at hlec
        have hgrow0 : ¬ sLen + n ≤ sCap := fun hle => by
          have : Nat.ble (Nat.add sLen n) sCap = true := Nat.ble_eq_true_of_le hle
          rw [c4] at this; cases this
        have holdL : old.length = sLen * i.size := by rw [hl]; show ((c.toList.drop o).take (sLen * i.size)).length = _; simp; omega
        have holdrun : ∀ w1 : World, w1.heap = w.heap → (Builtin.firstCells i.size sLen (.slice (some ⟨bi.blk, o, none⟩) sLen sCap)).run P w1 = .ok old.toArray w1 := by
          intro w1 hw1
          simp only [Builtin.firstCells]
          rw [hl]
          exact run_loadCells_at (w := w1) (by rw [hw1]; exact hw) hlec
        obtain ⟨l', nc, rest, e1, e2, e3, e4, e5⟩ := run_append_grows (P := P) (ty := ty) h0 h1 a0 a1 hu hsz hi hzr hzs hpos hsrc hgrow0 (Nat.le_of_ble_eq_true c5) (Nat.le_of_ble_eq_true c6) holdrun
        have hvv := hvr.append e1
        have hll : (old ++ l').length = (sLen + n) * i.size := by rw [List.length_append, holdL, e2, Nat.add_mul]
        obtain ⟨ι', b1, b2, b3⟩ := aopen_sound hr hvv hll e4 e3 hs
        exact ⟨ι', _, _, e5, b1, b2, b3.alike rfl rfl rfl⟩
      · rw [c4] at hs
        cases c5 : Nat.beq n 0
        · rw [c5] at hs; cases hs
        rw [c5] at hs
        simp only [AR.ok.injEq] at hs
        obtain ⟨rfl, rfl⟩ := hs
        obtain rfl := Nat.eq_of_beq_eq_true c5
        obtain ⟨l', e1, e2, e3⟩ := run_append_fits (P := P) (ty := ty) h0 h1 a0 a1 hu hsz hsrc (Nat.le_of_ble_eq_true c4)
        obtain rfl : l' = [] := List.eq_nil_of_length_eq_zero (by rw [e2]; exact Nat.zero_mul _)
        simp only [storeCells, Sem.run_pure, Result.andThen_ok] at e3
        exact ⟨ι, _, w, e3, .sl hb, hr, .refl _ _ _⟩
    rename_i vs e op hg
    cases c3 : allOne l
    · rw [c3] at hs; cases hs
    rw [c3] at hs
    -- the two kinds of slices, in one form
    obtain ⟨bi, sCap', hb, rfl, hle, hsp⟩ : ∃ bi sCap', ι b = some bi ∧ s' = .slice (some ⟨bi.blk, o, none⟩) sLen sCap' ∧ sCap ≤ sCap' ∧ ((sp = none ∧ sCap' = sCap) ∨ (sp = some bi.sz ∧ o + sCap' * bi.sz = bi.cnt)) := by
      cases hsv with
      | @sl _ _ _ _ bi hb => exact ⟨bi, sCap, hb, rfl, Nat.le_refl _, .inl ⟨rfl, rfl⟩⟩
      | @slo _ _ _ _ c' bi hb hc hle => exact ⟨bi, c', hb, rfl, hle, .inr ⟨rfl, hc⟩⟩
      | sle => exact (hsp0 rfl).elim
    have hsv' : ∀ (ι2 : Iota) (len : Nat), ι2 b = some bi → VR ι2 (.slice (some ⟨b, o, sp⟩) len sCap) (.slice (some ⟨bi.blk, o, none⟩) len sCap') := by
      intro ι2 len hb2
      rcases hsp with ⟨rfl, rfl⟩ | ⟨rfl, hc⟩
      · exact .sl hb2
      · exact .slo hb2 hc hle
    obtain ⟨c, hc, hcn, hlec, hop, hvs⟩ := hr.cellsAt hg hb
    cases c4 : Nat.ble (Nat.add sLen n) sCap
    · rw [c4] at hs
      cases c5 : Nat.ble (Nat.mul (Nat.add (Nat.mul 2 (Nat.add sLen n)) 192) i.bytes) 281474976710656
      · rw [c5] at hs; cases hs
      rw [c5] at hs
      cases c6 : Nat.blt (Nat.add sLen n) 281474976710656
      · rw [c6] at hs; cases hs
      rw [c6] at hs
      simp only at hs
      split at hs
      case h_2 => cases hs
      rename_i old hcut
      obtain ⟨hcl, rfl⟩ := cut_eq hcut
      change o + sLen * i.size ≤ vs.length at hcl
      have hgrow0 : ¬ sLen + n ≤ sCap := fun hle => by
        have : Nat.ble (Nat.add sLen n) sCap = true := Nat.ble_eq_true_of_le hle
        rw [c4] at this; cases this
      have holdR : VRL ι ((vs.drop o).take (sLen * i.size)) ((c.toList.drop o).take (sLen * i.size)) := by
        have := (hvs.drop o).take (sLen * i.size)
        rw [List.drop_take, List.take_take, Nat.min_eq_left (by omega)] at this
        exact this
      have holdL : ((c.toList.drop o).take (sLen * i.size)).length = sLen * i.size := by simp; omega
      have holdrun : ∀ w1 : World, w1.heap = w.heap → (Builtin.firstCells i.size sLen (.slice (some ⟨bi.blk, o, none⟩) sLen sCap')).run P w1 = .ok ((c.toList.drop o).take (sLen * i.size)).toArray w1 := by
        intro w1 hw1
        simp only [Builtin.firstCells]
        exact run_loadCells_at (w := w1) (by rw [hw1]; exact hc) (by omega)
      -- where it grows
      have grows : ∀ h1 : Heap, HR ι h1 w.heap → Adv ι h w ι h1 w → ¬ sLen + n ≤ sCap' → aopen ((vs.drop o).take (Nat.mul sLen i.size) ++ l) elem (Nat.add sLen n) i.size h1 = .ok v h' →
          ∃ ι' v' w', (Builtin.append_ argTypes ty args').run P w = .ok v' w' ∧ VR ι' v v' ∧ HR ι' h' w'.heap ∧ Adv ι h w ι' h' w' := by
        intro h1' hr1 hadv hgr hs1
        obtain ⟨l', nc, rest, e1, e2, e3, e4, e5⟩ := run_append_grows (P := P) (ty := ty) h0 h1 a0 a1 hu hsz hi hzr hzs hpos hsrc hgr (Nat.le_of_ble_eq_true c5) (Nat.le_of_ble_eq_true c6) holdrun
        have hvv := holdR.append e1
        have hll : ((c.toList.drop o).take (sLen * i.size) ++ l').length = (sLen + n) * i.size := by rw [List.length_append, holdL, e2, Nat.add_mul]
        obtain ⟨ι', b1, b2, b3⟩ := aopen_sound hr1 hvv hll e4 e3 hs1
        exact ⟨ι', _, _, e5, b1, b2, hadv.trans (b3.alike rfl rfl rfl)⟩
      cases sp with
      | none =>
        rcases hsp with ⟨_, rfl⟩ | ⟨hh, _⟩
        · exact grows h hr (.refl _ _ _) hgrow0 hs
        · cases hh
      | some sz =>
        rcases hsp with ⟨hh, _⟩ | ⟨hh, hcnt⟩
        · cases hh
        cases hh
        simp only at hs
        cases c7 : Nat.beq bi.sz i.size
        · rw [c7] at hs; cases hs
        rw [c7] at hs
        cases c8 : Nat.beq o 0
        · rw [c8] at hs; cases hs
        rw [c8] at hs
        cases c9 : Nat.beq e elem
        · rw [c9] at hs; cases hs
        rw [c9] at hs
        simp only at hs
        have hsze := Nat.eq_of_beq_eq_true c7
        have ho := Nat.eq_of_beq_eq_true c8
        have hee := Nat.eq_of_beq_eq_true c9
        subst ho
        subst hee
        by_cases hfit : sLen + n ≤ sCap'
        · -- in place, beyond what is known
          obtain ⟨l', e1, e2, e3⟩ := run_append_fits (P := P) (ty := ty) h0 h1 a0 a1 hu hsz hsrc hfit
          have hcs : c.size = sCap' * i.size := by rw [hcn, ← hcnt, hsze, Nat.zero_add]
          have hin : sLen * i.size + n * i.size ≤ c.size := by rw [hcs, ← Nat.add_mul]; exact Nat.mul_le_mul_right _ hfit
          have hst := run_storeCells_at (P := P) bi.blk (sLen * i.size) e l' 0 c w hc (by rw [e2]; omega) (e1.allOne c3)
          rw [Nat.add_zero] at hst
          simp only [add_none, Nat.zero_add, hst, Result.andThen_ok] at e3
          unfold aopen at hs
          simp only [AR.ok.injEq] at hs
          obtain ⟨rfl, rfl⟩ := hs
          have hset := hr.set (o2 := .cells ((vs.drop 0).take (Nat.mul sLen i.size) ++ l) e true) (o2' := .cells (c.toList.take (sLen * i.size) ++ l' ++ c.toList.drop (sLen * i.size + l'.length)).toArray e (0, 0)) hg hb (by
            simp only [OR]
            have hll : ((vs.drop 0).take (Nat.mul sLen i.size) ++ l).length = (sLen + n) * i.size := by
              rw [List.length_append, e1.length, e2, Nat.add_mul]
              have : ((vs.drop 0).take (Nat.mul sLen i.size)).length = sLen * i.size := by
                show ((vs.drop 0).take (sLen * i.size)).length = sLen * i.size
                simp; omega
              rw [this]
            have hadd : (sLen + n) * i.size = sLen * i.size + n * i.size := Nat.add_mul _ _ _
            refine ⟨trivial, trivial, ?_, ?_, (fun hh => nomatch hh), ?_⟩
            · simp; omega
            · rw [hll]; simp; omega
            · rw [hll, List.toList_toArray, List.append_assoc]
              have hA : (c.toList.take (sLen * i.size)).length = sLen * i.size := by simp; omega
              rw [List.take_append, List.take_of_length_le (by omega : (c.toList.take (sLen * i.size)).length ≤ (sLen + n) * i.size), hA,
                show (sLen + n) * i.size - sLen * i.size = l'.length by omega, List.take_append_of_le_length (Nat.le_refl _), List.take_length]
              have := holdR
              rw [List.drop_zero] at this ⊢
              exact this.append e1)
          have hmv := HR.move (w := { w with heap := _ }) hset.1 (Heap.get_set_same _ hg) hb
          have hgeq := get_delset (h := h) (b := b) (.cells ((vs.drop 0).take (Nat.mul sLen i.size) ++ l) e true) (.cells ((vs.drop 0).take (Nat.mul sLen i.size) ++ l) e true)
          refine ⟨upd ι h.nx bi, _, _, e3, ?_, ?_, ?_⟩
          · have h1 : upd ι h.nx bi h.nx = some bi := upd_same _ _ _
            have := VR.slo (ι := upd ι h.nx bi) (o := 0) (l := sLen + n) (c := sLen + n) (c' := sCap') h1 hcnt hfit
            rw [hsze] at this
            exact this
          · rw [setRow_heap hc]; exact HR.congr hgeq rfl rfl hmv.1
          · rw [setRow_world hc]; exact Adv.congr hgeq rfl rfl (hset.2.trans hmv.2)
        · exact grows (h.del b) (hr.del b).1 (hr.del b).2 hfit hs
    · rw [c4] at hs
      simp only at hs
      split at hs
      case h_2 => cases hs
      rename_i r hlay
      simp only [AR.ok.injEq] at hs
      obtain ⟨rfl, rfl⟩ := hs
      have hfit : sLen + n ≤ sCap' := by have := Nat.le_of_ble_eq_true c4; change sLen + n ≤ sCap at this; omega
      obtain ⟨l', e1, e2, e3⟩ := run_append_fits (P := P) (ty := ty) h0 h1 a0 a1 hu hsz hsrc hfit
      obtain ⟨w', b1, b2, b3⟩ := hr.lay (P := P) hg hb e1 c3 hlay
      simp only [add_none] at e3
      change (storeCells ⟨bi.blk, o + sLen * i.size, none⟩ l').run P w = .ok () w' at b1
      rw [b1] at e3
      exact ⟨ι, _, w', e3, hsv' ι _ hb, b2, b3⟩
  · cases hs

end Go.Dx
