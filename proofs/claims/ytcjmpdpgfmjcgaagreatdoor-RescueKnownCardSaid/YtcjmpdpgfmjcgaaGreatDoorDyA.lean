/- DyA: the abstract run is sound, part 10: drawn regions. -/
import Derived.Test.YtcjmpdpgfmjcgaaGreatDoorDxZ
import Derived.OrdersIn
namespace Go.Dx
variable {P : Program} {V : Nat → Nat → Bool} {ι : Iota} {bg : Nat}

/-- An operation has been carried out in the model's run. -/
abbrev Ls (listed : Array Bool) (k : Nat) : Prop := listed.getD k false = true

/-- The abstract run is ahead of the model's: the operations of 'T' that are not listed are still to come there. -/
structure DI (V : Nat → Nat → Bool) (fr : Fr) (ops : Array Oper) (ι0 : Iota) (h0 : Heap) (w0 : World) (T : Nat) (dn : List Done) (e : Env) (ds : List ADef) (h H : Heap) (listed : Array Bool) (ι : Iota) (a : Act) (w : World) : Prop where
  lsz : listed.size = ops.size
  closed : ∀ k, Ls listed k → ∀ o, ops[k]? = some o → ∀ ed ∈ o.after, Region.binds .any ed = true → Ls listed ed.on
  sub : ∀ k, Ls listed k → T.testBit k = true
  eff : ∀ x ∈ ixs ops.toList, T.testBit x.i = true → isEff x = true → Ls listed x.i
  dnin : ∀ d ∈ dn, d.x ∈ ixs ops.toList ∧ T.testBit d.x.i = true ∧ ∀ t, d.x.o.dst = some t → t < fr.nt
  cov : ∀ x ∈ ixs ops.toList, T.testBit x.i = true → ¬ Ls listed x.i → ∃ d ∈ dn, d.x = x
  uniq : ∀ d ∈ dn, ∀ d' ∈ dn, d.x.i = d'.x.i → d = d'
  slots : ∀ t v, lk t e = some v → (∃ x ∈ ixs ops.toList, T.testBit x.i = true ∧ ¬ Ls listed x.i ∧ x.o.dst = some t) ∨ ∃ v', a.tmps[t]? = some v' ∧ VR ι v v'
  ei : EI V fr.fn e
  sz : a.tmps.size = fr.nt
  df : DR ι ds a.defers
  hr : HR ι H w.heap
  adv : Adv ι0 h0 w0 ι H w
  nx : H.nx = h.nx
  gl : H.gl = h.gl
  hin : ∀ b o, h.get b = some o → H.get b = some o
  lay : ∀ d ∈ dn, Ls listed d.x.i → ∀ b nk ao, d.b = some (b, nk, ao) → H.get b = some ao
  dom : ∀ b o, H.get b = some o → h.get b = some o ∨ ∃ d ∈ dn, Ls listed d.x.i ∧ ∃ nk, d.b = some (b, nk, o)
  res : ∀ d ∈ dn, ∀ b nk ao, d.b = some (b, nk, ao) → h.get b = none ∧ b < h.nx ∧ True ∧ h.gl ≤ b ∧ h0.nx ≤ b ∧ (¬ Ls listed d.x.i → ι b = none)
  bu : ∀ d ∈ dn, ∀ d' ∈ dn, ∀ b nk ao nk' ao', d.b = some (b, nk, ao) → d'.b = some (b, nk', ao') → d = d'

section
variable {fr : Fr} {ops : Array Oper} {ι0 : Iota} {h0 : Heap} {w0 : World} {T : Nat} {dn : List Done} {e : Env} {ds : List ADef} {h H : Heap} {listed : Array Bool} {a : Act} {w : World}

theorem ls_set {i k : Nat} (hi : i < listed.size) : Ls (listed.setIfInBounds i true) k ↔ (k = i ∨ Ls listed k) := by
  by_cases e : i = k
  · subst e
    simp [hi]
  · unfold Ls
    rw [getD_set_ne false e]
    constructor
    · exact .inr
    · rintro (h | h)
      · exact absurd h.symm e
      · exact h

/-- The quiet operations of a phase are carried out, in the abstract run alone. -/
theorem DI.quiets {qs : List Ix} {T' : Nat} {dn' : List Done} {e' : Env} {h' : Heap} (I : DI V fr ops ι0 h0 w0 T dn e ds h H listed ι a w) (hq : quiets P V bg fr ops qs dn e h = some (dn', e', h')) (ht : takeQ qs T = some T')
    (hm : ∀ x ∈ qs, x ∈ ixs ops.toList) : DI V fr ops ι0 h0 w0 T' dn' e' ds h' ⟨H.t, h'.nx, H.gl⟩ listed ι a w := by
  obtain ⟨new, n1, n2, n3, n4, n5, n6, n7, n8, n9, n10, n11, n12, n13, n14⟩ := quiets_spec qs dn e h T hq ht I.ei
  subst n1
  have hT : ∀ k, T.testBit k = true → T'.testBit k = true := fun k hk => (n14 k).2 (.inl hk)
  have hnl : ∀ d ∈ new, ¬ Ls listed d.x.i := fun d hd hl => by
    have h1 := (n13 _ (n2 d hd)).1
    have h2 := I.sub _ hl
    rw [h1] at h2; cases h2
  have hget : ∀ b, h'.get b = h.get b := fun b => by unfold Heap.get; rw [n8]
  have hgetH : ∀ b, (⟨H.t, h'.nx, H.gl⟩ : Heap).get b = H.get b := fun b => rfl
  have hnle : H.nx ≤ h'.nx := by rw [I.nx]; exact n10
  refine ⟨I.lsz, I.closed, fun k hk => hT k (I.sub k hk), ?_, ?_, ?_, ?_, ?_, n5, I.sz, I.df, ?_, ?_, rfl, ?_, ?_, ?_, ?_, ?_, ?_⟩
  · intro x hx hxT hxe
    rcases (n14 x.i).1 hxT with g | ⟨y, g1, g2⟩
    · exact I.eff x hx g hxe
    · have : y = x := ixs_inj (hm y g1) hx g2
      subst this
      have := (n13 y g1).2
      rw [this] at hxe; cases hxe
  · intro d hd
    rcases List.mem_append.1 hd with g | g
    · exact ⟨hm _ (n2 d g), (n14 _).2 (.inr ⟨d.x, n2 d g, rfl⟩), n6 _ (n2 d g)⟩
    · obtain ⟨a1, a2, a3⟩ := I.dnin d g
      exact ⟨a1, hT _ a2, a3⟩
  · intro x hx hxT hxl
    rcases (n14 x.i).1 hxT with g | ⟨y, g1, g2⟩
    · obtain ⟨d, a1, a2⟩ := I.cov x hx g hxl
      exact ⟨d, List.mem_append_right _ a1, a2⟩
    · have : y = x := ixs_inj (hm y g1) hx g2
      subst this
      obtain ⟨d, a1, a2⟩ := n3 y g1
      exact ⟨d, List.mem_append_left _ a1, a2⟩
  · intro d hd d' hd' heq
    rcases List.mem_append.1 hd with g | g <;> rcases List.mem_append.1 hd' with g' | g'
    · exact n4 d g d' g' heq
    · exfalso
      have h1 := (n13 _ (n2 d g)).1
      have h2 := (I.dnin d' g').2.1
      rw [heq, h2] at h1; cases h1
    · exfalso
      have h1 := (n13 _ (n2 d' g')).1
      have h2 := (I.dnin d g).2.1
      rw [← heq, h2] at h1; cases h1
    · exact I.uniq d g d' g' heq
  · intro t v hv
    rcases n7 t v hv with ⟨x, g1, g2⟩ | g
    · obtain ⟨d, a1, a2⟩ := n3 x g1
      exact .inl ⟨x, hm x g1, (n14 _).2 (.inr ⟨x, g1, rfl⟩), by rw [← a2]; exact hnl d a1, g2⟩
    · rcases I.slots t v g with ⟨x, a1, a2, a3, a4⟩ | g
      · exact .inl ⟨x, a1, hT _ a2, a3, a4⟩
      · exact .inr g
  · exact ⟨I.hr.obj, I.hr.inj, fun b bi hb => Nat.lt_of_lt_of_le (I.hr.fresh b bi hb) hnle, I.hr.glo, Nat.le_trans I.hr.gn hnle⟩
  · exact ⟨I.adv.sub, I.adv.sz, I.adv.fr, I.adv.dm, Nat.le_trans I.adv.nx hnle, I.adv.old, I.adv.gl, I.adv.os, I.adv.out, I.adv.fz⟩
  · rw [n9]; exact I.gl
  · intro b o hb
    rw [hget] at hb
    exact I.hin b o hb
  · intro d hd hl b nk ao hb
    rcases List.mem_append.1 hd with g | g
    · exact absurd hl (hnl d g)
    · exact I.lay d g hl b nk ao hb
  · intro b o hb
    rw [hgetH] at hb
    rw [hget]
    rcases I.dom b o hb with g | ⟨d, g1, g2⟩
    · exact .inl g
    · exact .inr ⟨d, List.mem_append_right _ g1, g2⟩
  · intro d hd b nk ao hb
    rw [hget, n9]
    rcases List.mem_append.1 hd with g | g
    · obtain ⟨a1, a2, a3⟩ := n11 d g b nk ao hb
      have hno : ι b = none := by
        cases hq : ι b with
        | none => rfl
        | some bi => have := I.hr.fresh b bi hq; rw [I.nx] at this; omega
      have hgn : h.get b = none := by
        cases hq : h.get b with
        | none => rfl
        | some o =>
          obtain ⟨bi, _, e1, _⟩ := I.hr.obj b o (I.hin b o hq)
          rw [hno] at e1; cases e1
      refine ⟨hgn, a2, a3, ?_, ?_, fun _ => hno⟩
      · have := I.hr.gn; rw [I.nx, I.gl] at this; omega
      · have := I.adv.nx; rw [I.nx] at this; omega
    · obtain ⟨a1, a2, a3, a4, a5, a6⟩ := I.res d g b nk ao hb
      exact ⟨a1, Nat.lt_of_lt_of_le a2 n10, a3, a4, a5, a6⟩
  · intro d hd d' hd' b nk ao nk' ao' hb hb'
    rcases List.mem_append.1 hd with g | g <;> rcases List.mem_append.1 hd' with g' | g'
    · exact n12 d g d' g' b nk ao nk' ao' hb hb'
    · exfalso
      have h1 := (n11 d g b nk ao hb).1
      have h2 := (I.res d' g' b nk' ao' hb').2.1
      omega
    · exfalso
      have h1 := (n11 d' g' b nk' ao' hb').1
      have h2 := (I.res d g b nk ao hb).2.1
      omega
    · exact I.bu d g d' g' b nk ao nk' ao' hb hb'

/-- What an operation looks at that may come up now has its value in the model's frame too. -/
theorem DI.seen1 {x : Ix} (I : DI V fr ops ι0 h0 w0 T dn e ds h H listed ι a w) (he : edgesOk (ixs ops.toList) = true) (hso : slotsOk ops (ixs ops.toList) = true) (hx : x ∈ ixs ops.toList) (hl : ¬ Ls listed x.i)
    (hr : ∀ ed ∈ x.o.after, Region.binds .any ed = true → Ls listed ed.on) : ∀ t v, t ∈ x.o.looksAt ops → lk t e = some v → ∃ v', a.tmps[t]? = some v' ∧ VR ι v v' := by
  intro t v ht hlk
  rcases I.slots t v hlk with ⟨y, y1, y2, y3, y4⟩ | g
  · exfalso
    unfold slotsOk at hso
    have h1 := List.all_eq_true.1 hso y y1
    rw [y4] at h1
    simp only at h1
    have h2 := List.all_eq_true.1 h1 x hx
    simp only [Bool.or_eq_true, Bool.and_eq_true, Bool.not_eq_true'] at h2
    have hye : isEff y = false := by
      cases hq : isEff y with
      | false => rfl
      | true => exact absurd (I.eff y y1 y2 hq) y3
    rcases h2 with ((⟨h2, h3⟩ | h2) | h2) | h2
    · have : x = y := ixs_inj hx y1 (Nat.eq_of_beq_eq_true h2)
      subst this
      rw [hye] at h3
      rcases h3 with h3 | h3
      · cases h3
      · rw [List.contains_iff_mem.2 ht] at h3; cases h3
    · have : (looks ops x.o).contains t = true := List.contains_iff_mem.2 (List.mem_append_left _ ht)
      rw [this] at h2; cases h2
    · exact y3 (closure he I.closed (x.i + 1) x (Nat.lt_succ_self _) hx hr y.i h2)
    · rw [hye] at h2; cases h2.1
  · exact g

theorem DI.view {x : Ix} (I : DI V fr ops ι0 h0 w0 T dn e ds h H listed ι a w) (he : edgesOk (ixs ops.toList) = true) (hso : slotsOk ops (ixs ops.toList) = true) (hx : x ∈ ixs ops.toList) (hl : ¬ Ls listed x.i)
    (hr : ∀ ed ∈ x.o.after, Region.binds .any ed = true → Ls listed ed.on) : FR V fr ι (view V fr.fn e (x.o.looksAt ops)) ds a := by
  obtain ⟨v1, v2⟩ := view_sound (V := V) (fn := fr.fn) (e := e) (x.o.looksAt ops)
  exact ⟨fun t v hv => I.seen1 he hso hx hl hr t v (v2 t v hv).1 (v2 t v hv).2, v1, I.sz, I.df⟩
theorem DI.envQ {x : Ix} (I : DI V fr ops ι0 h0 w0 T dn e ds h H listed ι a w) (he : edgesOk (ixs ops.toList) = true) (hso : slotsOk ops (ixs ops.toList) = true) (hx : x ∈ ixs ops.toList) (hl : ¬ Ls listed x.i)
    (hr : ∀ ed ∈ x.o.after, Region.binds .any ed = true → Ls listed ed.on) : EnvR ι (viewQ e (x.o.looksAt ops)) a.tmps :=
  fun t v hv => I.seen1 he hso hx hl hr t v (viewQ_sound _ t v hv).1 (viewQ_sound _ t v hv).2

/-- A quiet operation that the abstract run has carried out already comes up. -/
theorem DI.step {F : Fence} {Q : Exit → Act → World → Prop} {K : Act → World → Prop} {x : Ix} (I : DI V fr ops ι0 h0 w0 T dn e ds h H listed ι a w) (hst : ∀ d ∈ dn, Still P bg ops h e d) (hbig : h.nx ≤ bg) (he : edgesOk (ixs ops.toList) = true) (hso : slotsOk ops (ixs ops.toList) = true)
    (hF : FenR ι fr.rd F) (hx : x ∈ ixs ops.toList) (hT : T.testBit x.i = true) (hl : ¬ Ls listed x.i) (hr : ∀ ed ∈ x.o.after, Region.binds .any ed = true → Ls listed ed.on)
    (hK : ∀ ι' a' w' H', Sub ι ι' → DI V fr ops ι0 h0 w0 T dn e ds h H' (listed.setIfInBounds x.i true) ι' a' w' → K a' w') : wpOpIn F 0 P ops Q x.i K a w := by
  obtain ⟨d, hd, rfl⟩ := I.cov x hx hT hl
  have hxo := (mem_ixs hx).1
  have hlt : d.x.i < listed.size := by rw [I.lsz]; exact (Array.getElem?_eq_some_iff.1 hxo).1
  have henv : EnvR ι (viewQ e (d.x.o.looksAt ops)) a.tmps := I.envQ he hso hx hl hr
  obtain ⟨hslot, hs2⟩ := hst d hd
  have hrh : HR ι (hz bg h) w.heap := I.hr.weaken I.hin (by rw [I.nx]; exact hbig) I.gl.symm
  -- the frame after it
  have tail : ∀ (ι' : Iota) (v' : Value) (w' : World) (H' : Heap), Sub ι ι' → VR ι' d.v v' → HR ι' H' w'.heap → Adv ι0 h0 w0 ι' H' w' → H'.nx = h.nx → H'.gl = h.gl → (∀ b o, H.get b = some o → H'.get b = some o) →
      (∀ b o, H'.get b = some o → H.get b = some o ∨ ∃ nk, d.b = some (b, nk, o)) → (∀ b nk ao, d.b = some (b, nk, ao) → H'.get b = some ao) → (∀ b, ι b = none → (∀ nk ao, d.b ≠ some (b, nk, ao)) → b < h.nx → ι' b = none) → K (a.put d.x.o.dst v') w' := by
    intro ι' v' w' H' hsub hv hrr hadv hnx hgl hin hdom hself hnone
    refine hK ι' _ w' H' hsub ?_
    refine ⟨by simp [I.lsz], ?_, ?_, ?_, I.dnin, ?_, I.uniq, ?_, I.ei, ?_, ?_, hrr, hadv, hnx, hgl, fun b o hb => hin b o (I.hin b o hb), ?_, ?_, ?_, I.bu⟩
    · intro k hk o ho ed hed hb
      rcases (ls_set hlt).1 hk with rfl | g
      · rw [hxo] at ho; cases ho
        exact (ls_set hlt).2 (.inr (hr ed hed hb))
      · exact (ls_set hlt).2 (.inr (I.closed k g o ho ed hed hb))
    · intro k hk
      rcases (ls_set hlt).1 hk with rfl | g
      · exact hT
      · exact I.sub k g
    · intro y hy hyT hye
      exact (ls_set hlt).2 (.inr (I.eff y hy hyT hye))
    · intro y hy hyT hyl
      exact I.cov y hy hyT fun hq => hyl ((ls_set hlt).2 (.inr hq))
    · intro t v hv
      by_cases hdst : d.x.o.dst = some t
      · have := hslot t hdst
        rw [this] at hv; cases hv
        have htl : t < a.tmps.size := by rw [I.sz]; exact (I.dnin d hd).2.2 t hdst
        exact .inr ⟨v', by simp [Act.put, hdst, htl], hv⟩
      · have hsame : (a.put d.x.o.dst v').tmps[t]? = a.tmps[t]? := by
          cases hq : d.x.o.dst with
          | none => rfl
          | some s =>
            have hne : s ≠ t := fun e => hdst (by rw [hq, e])
            simp only [Act.put]
            rw [Array.getElem?_setIfInBounds_ne hne]
        rcases I.slots t v hv with ⟨y, y1, y2, y3, y4⟩ | ⟨v1, g1, g2⟩
        · refine .inl ⟨y, y1, y2, fun hq => ?_, y4⟩
          rcases (ls_set hlt).1 hq with g | g
          · have : y = d.x := ixs_inj y1 hx g
            rw [this] at y4; exact hdst y4
          · exact y3 g
        · exact .inr ⟨v1, by rw [hsame]; exact g1, g2.mono hsub⟩
    · have : (a.put d.x.o.dst v').tmps.size = a.tmps.size := by cases d.x.o.dst <;> simp [Act.put]
      rw [this]; exact I.sz
    · have : (a.put d.x.o.dst v').defers = a.defers := by cases d.x.o.dst <;> rfl
      rw [this]; exact I.df.mono hsub
    · intro d' hd' hl' b nk ao hb
      rcases (ls_set hlt).1 hl' with g | g
      · have := I.uniq d' hd' d hd g
        subst this
        exact hself b nk ao hb
      · exact hin b ao (I.lay d' hd' g b nk ao hb)
    · intro b o hb
      rcases hdom b o hb with g | ⟨nk, g⟩
      · rcases I.dom b o g with g | ⟨d', g1, g2, g3⟩
        · exact .inl g
        · exact .inr ⟨d', g1, (ls_set hlt).2 (.inr g2), g3⟩
      · exact .inr ⟨d, hd, (ls_set hlt).2 (.inl rfl), nk, g⟩
    · intro d' hd' b nk ao hb
      obtain ⟨a1, a2, a3, a4, a5, a6⟩ := I.res d' hd' b nk ao hb
      refine ⟨a1, a2, a3, a4, a5, fun hq => ?_⟩
      refine hnone b (a6 fun hq' => hq ((ls_set hlt).2 (.inr hq'))) (fun nk' ao' hb' => ?_) a2
      have := I.bu d' hd' d hd b nk ao nk' ao' hb hb'
      subst this
      exact hq ((ls_set hlt).2 (.inl rfl))
  have hnd : ∀ c, d.x.o.op ≠ .defer c := by
    intro c hc
    have : isEff d.x = true := by unfold isEff; rw [hc]; rfl
    exact hl (I.eff d.x hx hT this)
  unfold wpOpIn
  simp only [hxo]
  rcases hs2 with ⟨hg, hb, hv⟩ | ⟨hg, hk, hb, h1, hop⟩ | ⟨hg, hk, b, nk, ao, hb, hnew, hv⟩
  · rw [gd_soundE henv hg]
    simp only [Bool.false_eq_true, if_false]
    exact ⟨fun f _ => hF.fn f, tail ι _ w H (.refl _) (by rw [hv]; exact .tup .nil) I.hr I.adv I.nx I.gl (fun b o h => h) (fun b o h => .inl h) (fun b nk ao hq => by rw [hb] at hq; cases hq) (fun b hb _ _ => hb)⟩
  · rw [gd_soundE henv hg]
    simp only [if_true]
    refine ⟨fun f _ => hF.fn f, ?_⟩
    rw [Oper.semAt_eq _ _ _ hnd]
    have := aop_heap hk hop
    subst this
    obtain ⟨ι', v', w', hrun, hv, hr', ha'⟩ := aop_sound (P := P) (a := a) hrh henv hop
    have hrz : HR ι ⟨H.t, bg, H.gl⟩ w.heap := I.hr.weaken (fun _ _ h => h) (by rw [I.nx]; exact hbig) rfl
    obtain ⟨j1, j2⟩ := hrz.join (h := hz bg h) (H' := ⟨H.t, bg, H.gl⟩) I.hin hr' ha' rfl I.gl.symm (fun b o hb => by
      cases hq : (hz bg h).get b with
      | none => exact .inr ⟨hb, rfl⟩
      | some o2 =>
        have h3 := I.hin b o2 hq
        have h4 : H.get b = some o := hb
        rw [h4] at h3; cases h3
        exact .inl rfl) rfl I.gl
    have hold : ∀ b, b < bg → ι' b = ι b := fun b hb => j2.old b hb
    have hHn : H.nx ≤ bg := by rw [I.nx]; exact hbig
    have k1 : HR ι' H w'.heap := ⟨j1.obj, j1.inj, fun b bi hb => by
      have := j1.fresh b bi hb
      rw [hold b this] at hb
      exact I.hr.fresh b bi hb, j1.glo, I.hr.gn⟩
    have k2 : Adv ι0 h0 w0 ι' H w' := by
      refine ⟨I.adv.sub.trans j2.sub, Nat.le_trans I.adv.sz j2.sz, fun c hc hnr => ?_, fun c hrg hc => ?_, I.adv.nx, fun c hc => ?_, I.adv.gl, j2.os.trans I.adv.os, j2.out.trans I.adv.out, fun c hc => j2.fz c (I.adv.fz c hc)⟩
      · rw [j2.fr c (Nat.lt_of_lt_of_le hc I.adv.sz) (fun hrg => hnr (I.adv.dm c hrg hc)), I.adv.fr c hc hnr]
      · exact I.adv.dm c (j2.dm c hrg (Nat.lt_of_lt_of_le hc I.adv.sz)) hc
      · have : c < bg := Nat.lt_of_lt_of_le hc (Nat.le_trans I.adv.nx hHn)
        rw [hold c this]; exact I.adv.old c hc
    have fin : K (a.put d.x.o.dst v') w' := tail ι' v' w' H ha'.sub hv k1 k2 I.nx I.gl (fun b o h => h) (fun b o h => .inl h) (fun b nk ao hq => by rw [hb] at hq; cases hq)
      (fun b hb _ hlt' => by rw [hold b (Nat.lt_of_lt_of_le hlt' hbig)]; exact hb)
    rcases hrun with hrun | ⟨hrun, rfl⟩
    · rw [hrun, Oper.uponIn_value]; exact fin
    · rw [hrun, Oper.uponIn_skip]; exact fin
  · rw [gd_soundE henv hg]
    simp only [if_true]
    refine ⟨fun f _ => hF.fn f, ?_⟩
    rw [Oper.semAt_eq _ _ _ hnd]
    obtain ⟨o', bi, hrun, hblk, hor⟩ := newOf_sound (P := P) (a := a) hrh henv hnew
    obtain ⟨a1, a2, a3, a4, a5, a6⟩ := I.res d hd b nk ao hb
    have hno := a6 hl
    have hsub : Sub ι (upd ι b bi) := fun c x hc => by
      have : c ≠ b := fun e => by rw [e, hno] at hc; cases hc
      rw [upd_other _ _ this]; exact hc
    obtain ⟨j1, _, j3, j4⟩ := I.hr.addAt (b := b) (o := ao) (o' := o') hblk hno (by rw [I.nx]; exact a2) a3 (by rw [I.gl]; exact a4) (hor.mono hsub)
    have hadv : Adv ι0 h0 w0 (upd ι b bi) (H.set b ao) { w with heap := w.heap.push o' } := by
      refine ⟨I.adv.sub.trans hsub, by simp; have := I.adv.sz; omega, fun c hc hnr => ?_, fun c hrg hc => ?_, I.adv.nx, fun c hc => ?_, I.adv.gl, I.adv.os, I.adv.out, fun c hc x hx => ?_⟩
      · rw [j3 c (Nat.lt_of_lt_of_le hc I.adv.sz)]; exact I.adv.fr c hc hnr
      · exact I.adv.dm c (j4 c hrg (Nat.lt_of_lt_of_le hc I.adv.sz)) hc
      · rw [upd_other _ _ (by omega)]; exact I.adv.old c hc
      · simp only [Array.getElem?_push] at hx
        split at hx
        · cases hx; exact hor.unfz (newOf_ro hnew)
        · exact I.adv.fz c hc x hx
    have hHb : H.get b = none := by
      cases hq : H.get b with
      | none => rfl
      | some o =>
        obtain ⟨bi2, _, e1, _⟩ := I.hr.obj b o hq
        rw [hno] at e1; cases e1
    have hsame : (H.set b ao).get b = some ao := by unfold Heap.get Heap.set; exact tget_tset_same _ b (some ao)
    have hvr : VR (upd ι b bi) d.v (nk.mk w.heap.size) := by
      rw [hv, ← hblk]
      exact NK.rel (upd_same _ _ _)
    rw [hrun, Oper.uponIn_value]
    refine tail (upd ι b bi) _ { w with heap := w.heap.push o' } (H.set b ao) hsub hvr j1 hadv I.nx I.gl ?_ ?_ ?_ ?_
    · intro c o hc
      have : c ≠ b := fun e => by rw [e, hHb] at hc; cases hc
      rw [Heap.get_set_other _ this]; exact hc
    · intro c o hc
      by_cases e1 : c = b
      · subst e1
        rw [hsame] at hc; cases hc
        exact .inr ⟨nk, hb⟩
      · rw [Heap.get_set_other _ e1] at hc; exact .inl hc
    · intro c nk2 ao2 hc
      rw [hb] at hc; cases hc; exact hsame
    · intro c hc hne _
      have : c ≠ b := fun e => by subst e; exact hne nk ao hb
      rw [upd_other _ _ this]; exact hc

end
end Go.Dx
