/- DxC: abstract objects and heaps; when a heap of the abstract run stands for the model's heap; new blocks, changed blocks, dropped blocks. -/
import Derived.Test.YtcjmpdpgfmjcgaaGreatDoorDxB
namespace Go.Dx

/-- Temporaries, the last one first, and variables. -/
structure Env where
  te : List (Nat × Value)
  va : List (Nat × Value)

noncomputable def lkL (t : Nat) (e : List (Nat × Value)) : Option Value :=
  @List.rec (Nat × Value) (fun _ => Option Value) none (fun p _ ih => @Bool.casesOn (fun _ => Option Value) (Nat.beq p.1 t) ih (some p.2)) e
theorem lkL_nil (t : Nat) : lkL t [] = none := rfl
theorem lkL_cons (t : Nat) (p : Nat × Value) (e : List (Nat × Value)) : lkL t (p :: e) = if p.1 = t then some p.2 else lkL t e := by
  show @Bool.casesOn (fun _ => Option Value) (Nat.beq p.1 t) (lkL t e) (some p.2) = _
  cases h : Nat.beq p.1 t
  · have : p.1 ≠ t := by intro e; subst e; simp at h
    simp [this]
  · have : p.1 = t := Nat.eq_of_beq_eq_true h
    simp [this]
noncomputable def lk (t : Nat) (e : Env) : Option Value := @Option.casesOn Value (fun _ => Option Value) (lkL t e.te) (lkL t e.va) some
theorem lk_eq (t : Nat) (e : Env) : lk t e = match lkL t e.te with | some v => some v | none => lkL t e.va := by
  unfold lk; cases lkL t e.te <;> rfl

/-- The environment's slots hold, in the model's frame, related values. -/
def EnvR (ι : Iota) (e : Env) (tmps : Array Value) : Prop := ∀ t v, lk t e = some v → ∃ v', tmps[t]? = some v' ∧ VR ι v v'

theorem EnvR.mono {ι ι' : Iota} {e : Env} {tmps : Array Value} (h : EnvR ι e tmps) (hs : Sub ι ι') : EnvR ι' e tmps :=
  fun t v x => let ⟨v', a, b⟩ := h t v x; ⟨v', a, b.mono hs⟩
theorem EnvR.nil (ι : Iota) (tmps : Array Value) : EnvR ι ⟨[], []⟩ tmps := fun t v h => by simp [lk_eq, lkL_nil] at h

inductive AO where
  | cells (vs : List Value) (elem : TypeId) (op : Bool)
  | map (es : List MapEntry) (clock : Nat)
  | siter (s : ByteArray) (pos : Nat)
  | loop (st : LoopState) (pend : Option Code) (fn : FuncId) (nt : Nat) (env : Env) (params : Array Tmp) (assign body : Code) (defers : Nat)
  | defd
  | ro (lim : Nat) (o : Obj)

/-- Entries one by one: the same key, which has no address in it, the same stamp; the elements related. -/
inductive MER (ι : Iota) : List MapEntry → List MapEntry → Prop where
  | nil : MER ι [] []
  | cons {e e' : MapEntry} {l l' : List MapEntry} : e'.key = e.key → VR ι e.val e'.val → e'.born = e.born → MER ι l l' → MER ι (e :: l) (e' :: l')

theorem MER.mono {ι ι' : Iota} (hs : Sub ι ι') {l l' : List MapEntry} (h : MER ι l l') : MER ι' l l' := by
  induction h with
  | nil => exact .nil
  | cons a b c _ ih => exact .cons a (b.mono hs) c ih

def OR (ι : Iota) (bi : BI) : AO → Obj → Prop
  | .cells vs elem op, .cells c e fz => e = elem ∧ fz = (0, 0) ∧ c.size = bi.cnt ∧ vs.length ≤ c.size ∧ (op = false → vs.length = c.size) ∧ VRL ι vs (c.toList.take vs.length)
  | .map es clock, .map es' clock' => clock' = clock ∧ MER ι es es'.toList
  | .siter s p, .stringIter s' p' => s' = s ∧ p' = p
  | .loop st pend _ nt env params assign body defers, .loop l =>
      l.state = st ∧ l.pending = pend ∧ l.tmps.size = nt ∧ EnvR ι env l.tmps ∧ l.params = params ∧ l.assign = assign ∧ l.body = body ∧ ∃ bi', ι defers = some bi' ∧ l.defers = bi'.blk
  | .defd, .deferred (some []) => True
  | .ro lim o, o' => o' = o ∧ ∀ b, b < lim → ∃ bi', ι b = some bi' ∧ bi'.blk = b
  | _, _ => False

theorem OR.mono {ι ι' : Iota} (hs : Sub ι ι') {bi : BI} {o : AO} {o' : Obj} (h : OR ι bi o o') : OR ι' bi o o' := by
  cases o with
  | cells vs elem op =>
    cases o' <;> simp only [OR] at h ⊢
    obtain ⟨a, b, c, d, e, f⟩ := h
    exact ⟨a, b, c, d, e, f.mono hs⟩
  | map es clock =>
    cases o' <;> simp only [OR] at h ⊢
    exact ⟨h.1, h.2.mono hs⟩
  | siter s p => cases o' <;> simp only [OR] at h ⊢; exact h
  | loop =>
    cases o' <;> simp only [OR] at h ⊢
    obtain ⟨a, b, c, d, e, f, g, bi', h1, h2⟩ := h
    exact ⟨a, b, c, d.mono hs, e, f, g, bi', hs _ _ h1, h2⟩
  | ro lim o =>
    simp only [OR] at h ⊢
    exact ⟨h.1, fun b hb => let ⟨bi', h1, h2⟩ := h.2 b hb; ⟨bi', hs _ _ h1, h2⟩⟩
  | defd =>
    cases o' with
    | deferred x => cases x with
      | none => simp only [OR] at h
      | some l => cases l <;> simp only [OR] at h ⊢
    | _ => simp only [OR] at h

structure Heap where
  t : Tr AO
  nx : Nat
  gl : Nat

noncomputable def Heap.get (h : Heap) (b : Nat) : Option AO := tget h.t b
noncomputable def Heap.set (h : Heap) (b : Nat) (o : AO) : Heap := ⟨tset h.t b (some o), h.nx, h.gl⟩
noncomputable def Heap.del (h : Heap) (b : Nat) : Heap := ⟨tset h.t b none, h.nx, h.gl⟩
noncomputable def Heap.add (h : Heap) (o : AO) : Heap := ⟨tset h.t h.nx (some o), Nat.succ h.nx, h.gl⟩

theorem Heap.get_set_self (h : Heap) (b : Nat) (x : AO) : (h.set b x).get b = some x := tget_tset_same h.t b (some x)
theorem Heap.get_set_same {h : Heap} {b : Nat} {o : AO} (x : AO) (hg : h.get b = some o) : (h.set b x).get b = some x := by
  unfold Heap.get Heap.set; exact tget_tset_same h.t b (some x)
theorem Heap.get_set_other {h : Heap} {b c : Nat} (x : AO) (hne : c ≠ b) : (h.set b x).get c = h.get c := by
  unfold Heap.get Heap.set; exact tget_tset_other h.t b c (some x) hne
theorem Heap.get_del_same {h : Heap} {b : Nat} : (h.del b).get b = none := by
  unfold Heap.get Heap.del; exact tget_tset_same h.t b none
theorem Heap.get_del_other {h : Heap} {b c : Nat} (hne : c ≠ b) : (h.del b).get c = h.get c := by
  unfold Heap.get Heap.del; exact tget_tset_other h.t b c none hne
theorem Heap.get_add_same {h : Heap} {o : AO} : (h.add o).get h.nx = some o := by
  unfold Heap.get Heap.add; exact tget_tset_same h.t h.nx (some o)
theorem Heap.get_add_other {h : Heap} {o : AO} {c : Nat} (hne : c ≠ h.nx) : (h.add o).get c = h.get c := by
  unfold Heap.get Heap.add; exact tget_tset_other h.t h.nx c (some o) hne

/-- A block of the model's that the abstract heap speaks of. -/
def Rg (ι : Iota) (h : Heap) (c : Nat) : Prop := ∃ b o bi, h.get b = some o ∧ ι b = some bi ∧ bi.blk = c

structure HR (ι : Iota) (h : Heap) (hp : Array Obj) : Prop where
  obj : ∀ b o, h.get b = some o → ∃ bi o', ι b = some bi ∧ hp[bi.blk]? = some o' ∧ OR ι bi o o'
  inj : ∀ b b' o o' bi bi', h.get b = some o → h.get b' = some o' → ι b = some bi → ι b' = some bi' → bi.blk = bi'.blk → b = b'
  fresh : ∀ b bi, ι b = some bi → b < h.nx
  glo : ∀ g bi, g < h.gl → ι g = some bi → bi.blk = g
  gn : h.gl ≤ h.nx

/-- No cell of it is frozen. -/
def unfz : Obj → Prop
  | .cells _ _ fz => fz = (0, 0)
  | _ => True
def roA : AO → Bool
  | .ro _ _ => true
  | _ => false
theorem OR.unfz {ι : Iota} {bi : BI} {o : AO} {o' : Obj} (h : OR ι bi o o') (hro : roA o = false) : unfz o' := by
  cases o' with
  | cells c t fz =>
    cases o with
    | ro _ _ => cases hro
    | cells _ _ _ => simp only [OR] at h; exact h.2.1
    | _ => simp only [OR] at h
  | _ => trivial

structure Adv (ι : Iota) (h : Heap) (w : World) (ι' : Iota) (h' : Heap) (w' : World) : Prop where
  sub : Sub ι ι'
  sz : w.heap.size ≤ w'.heap.size
  fr : ∀ c, c < w.heap.size → ¬ Rg ι h c → w'.heap[c]? = w.heap[c]?
  dm : ∀ c, Rg ι' h' c → c < w.heap.size → Rg ι h c
  nx : h.nx ≤ h'.nx
  old : ∀ b, b < h.nx → ι' b = ι b
  gl : h'.gl = h.gl
  os : w'.os = w.os
  out : w'.output = w.output
  fz : ∀ c : Nat, (∀ o, w.heap[c]? = some o → unfz o) → ∀ o, w'.heap[c]? = some o → unfz o

theorem Adv.refl (ι : Iota) (h : Heap) (w : World) : Adv ι h w ι h w := ⟨.refl _, Nat.le_refl _, fun _ _ _ => rfl, fun _ h _ => h, Nat.le_refl _, fun _ _ => rfl, rfl, rfl, rfl, fun _ h => h⟩
theorem Adv.trans {ι ι1 ι2 : Iota} {h h1 h2 : Heap} {w w1 w2 : World} (a : Adv ι h w ι1 h1 w1) (b : Adv ι1 h1 w1 ι2 h2 w2) : Adv ι h w ι2 h2 w2 where
  sub := a.sub.trans b.sub
  sz := Nat.le_trans a.sz b.sz
  fr := fun c hc hn => by rw [b.fr c (Nat.lt_of_lt_of_le hc a.sz) (fun hr => hn (a.dm c hr hc)), a.fr c hc hn]
  dm := fun c hr hc => a.dm c (b.dm c hr (Nat.lt_of_lt_of_le hc a.sz)) hc
  nx := Nat.le_trans a.nx b.nx
  old := fun c hc => (b.old c (Nat.lt_of_lt_of_le hc a.nx)).trans (a.old c hc)
  gl := b.gl.trans a.gl
  os := b.os.trans a.os
  out := b.out.trans a.out
  fz := fun c hc => b.fz c (a.fz c hc)

theorem Adv.alike {ι ι' : Iota} {h h' : Heap} {w w' w2 : World} (a : Adv ι h w ι' h' w') (h1 : w2.heap = w'.heap) (h2 : w2.os = w'.os) (h3 : w2.output = w'.output) : Adv ι h w ι' h' w2 :=
  ⟨a.sub, by rw [h1]; exact a.sz, fun c hc hn => by rw [h1]; exact a.fr c hc hn, a.dm, a.nx, a.old, a.gl, h2.trans a.os, h3.trans a.out, fun c hc => by rw [h1]; exact a.fz c hc⟩

def upd (ι : Iota) (b : Nat) (bi : BI) : Iota := fun c => if c = b then some bi else ι c
theorem upd_same (ι : Iota) (b : Nat) (bi : BI) : upd ι b bi b = some bi := by simp [upd]
theorem upd_other (ι : Iota) {b c : Nat} (bi : BI) (h : c ≠ b) : upd ι b bi c = ι c := by simp [upd, h]

variable {ι : Iota} {h : Heap} {hp : Array Obj}

theorem HR.sub_upd (hr : HR ι h hp) (bi : BI) : Sub ι (upd ι h.nx bi) := fun b x hb => by
  have : b ≠ h.nx := by have := hr.fresh b x hb; omega
  rw [upd_other _ _ this]; exact hb

theorem HR.blk_lt (hr : HR ι h hp) {c : Nat} (hg : Rg ι h c) : c < hp.size := by
  obtain ⟨b, o, bi, h1, h2, rfl⟩ := hg
  obtain ⟨bi', o', e1, e2, _⟩ := hr.obj b o h1
  rw [h2] at e1; cases e1
  exact (Array.getElem?_eq_some_iff.1 e2).1

/-- A new block. -/
theorem HR.add {w : World} (hr : HR ι h w.heap) {o : AO} {o' : Obj} {bi : BI} (hb : bi.blk = w.heap.size) (ho : OR (upd ι h.nx bi) bi o o') (hro : roA o = false := by rfl) :
    HR (upd ι h.nx bi) (h.add o) (w.heap.push o') ∧ Adv ι h w (upd ι h.nx bi) (h.add o) { w with heap := w.heap.push o' } := by
  have hsub := hr.sub_upd bi
  constructor
  · constructor
    · intro b x hx
      by_cases e : b = h.nx
      · subst e
        rw [Heap.get_add_same] at hx; cases hx
        exact ⟨bi, o', upd_same _ _ _, by rw [hb]; simp, ho⟩
      · rw [Heap.get_add_other e] at hx
        obtain ⟨bi', x', e1, e2, e3⟩ := hr.obj b x hx
        refine ⟨bi', x', hsub _ _ e1, ?_, e3.mono hsub⟩
        have hlt := (Array.getElem?_eq_some_iff.1 e2).1
        rw [Array.getElem?_push]; rw [if_neg (by omega)]; exact e2
    · intro b b' x x' bi1 bi2 h1 h2 i1 i2 heq
      by_cases e : b = h.nx <;> by_cases e' : b' = h.nx
      · rw [e, e']
      · exfalso
        rw [e, upd_same] at i1; cases i1
        rw [upd_other _ _ e'] at i2
        rw [Heap.get_add_other e'] at h2
        have := hr.blk_lt ⟨b', x', bi2, h2, i2, rfl⟩
        omega
      · exfalso
        rw [e', upd_same] at i2; cases i2
        rw [upd_other _ _ e] at i1
        rw [Heap.get_add_other e] at h1
        have := hr.blk_lt ⟨b, x, bi1, h1, i1, rfl⟩
        omega
      · rw [Heap.get_add_other e] at h1; rw [Heap.get_add_other e'] at h2
        rw [upd_other _ _ e] at i1; rw [upd_other _ _ e'] at i2
        exact hr.inj b b' x x' bi1 bi2 h1 h2 i1 i2 heq
    · intro b x hx
      by_cases e : b = h.nx
      · subst e; exact Nat.lt_succ_self _
      · rw [upd_other _ _ e] at hx; exact Nat.lt_succ_of_lt (hr.fresh b x hx)
    · intro g x hgl hx
      have hgl' : g < h.gl := hgl
      by_cases e : g = h.nx
      · subst e; have := hr.gn; omega
      · rw [upd_other _ _ e] at hx; exact hr.glo g x hgl hx
    · exact Nat.le_succ_of_le hr.gn
  · constructor
    · exact hsub
    · simp
    · intro c hc _; rw [Array.getElem?_push]; rw [if_neg (by omega)]
    · rintro c ⟨b, x, bi1, h1, i1, rfl⟩ hc
      by_cases e : b = h.nx
      · rw [e, upd_same] at i1; cases i1; omega
      · rw [Heap.get_add_other e] at h1; rw [upd_other _ _ e] at i1; exact ⟨b, x, bi1, h1, i1, rfl⟩
    · exact Nat.le_succ _
    · exact fun c hc => upd_other _ _ (Nat.ne_of_lt hc)
    · rfl
    · rfl
    · rfl
    · intro c hc x hx
      simp only [Array.getElem?_push] at hx
      split at hx
      · cases hx; exact ho.unfz hro
      · exact hc x hx

/-- A block that is there is changed, in both heaps. -/
theorem HR.set {w : World} (hr : HR ι h w.heap) {b : Nat} {o o2 : AO} {o2' : Obj} {bi : BI} (hg : h.get b = some o) (hi : ι b = some bi) (ho : OR ι bi o2 o2') (hro : roA o2 = false := by rfl) :
    HR ι (h.set b o2) (w.heap.setIfInBounds bi.blk o2') ∧ Adv ι h w ι (h.set b o2) { w with heap := w.heap.setIfInBounds bi.blk o2' } := by
  have hlt : bi.blk < w.heap.size := hr.blk_lt ⟨b, o, bi, hg, hi, rfl⟩
  have hdom : ∀ c x, (h.set b o2).get c = some x → ∃ y, h.get c = some y := by
    intro c x hx
    by_cases e : c = b
    · exact ⟨o, e ▸ hg⟩
    · rw [Heap.get_set_other _ e] at hx; exact ⟨x, hx⟩
  constructor
  · constructor
    · intro c x hx
      by_cases e : c = b
      · subst e
        rw [Heap.get_set_same _ hg] at hx; cases hx
        exact ⟨bi, o2', hi, by simp [hlt], ho⟩
      · rw [Heap.get_set_other _ e] at hx
        obtain ⟨bi', x', e1, e2, e3⟩ := hr.obj c x hx
        refine ⟨bi', x', e1, ?_, e3⟩
        have hne : bi.blk ≠ bi'.blk := fun he => e ((hr.inj b c o x bi bi' hg hx hi e1 he).symm)
        rw [Array.getElem?_setIfInBounds_ne hne]; exact e2
    · intro c c' x x' bi1 bi2 h1 h2 i1 i2 heq
      obtain ⟨y, hy⟩ := hdom c x h1
      obtain ⟨y', hy'⟩ := hdom c' x' h2
      exact hr.inj c c' y y' bi1 bi2 hy hy' i1 i2 heq
    · exact hr.fresh
    · exact hr.glo
    · exact hr.gn
  · constructor
    · exact .refl _
    · simp
    · intro c hc hn
      have hne : bi.blk ≠ c := fun he => hn ⟨b, o, bi, hg, hi, he⟩
      rw [Array.getElem?_setIfInBounds_ne hne]
    · rintro c ⟨d, x, bi1, h1, i1, rfl⟩ _
      obtain ⟨y, hy⟩ := hdom d x h1
      exact ⟨d, y, bi1, hy, i1, rfl⟩
    · exact Nat.le_refl _
    · exact fun _ _ => rfl
    · rfl
    · rfl
    · rfl
    · intro c hc x hx
      by_cases e : bi.blk = c
      · subst e; simp [hlt] at hx; subst hx; exact ho.unfz hro
      · simp only [Array.getElem?_setIfInBounds_ne e] at hx; exact hc x hx

/-- A block is spoken of no more. -/
theorem HR.del {w : World} (hr : HR ι h w.heap) (b : Nat) : HR ι (h.del b) w.heap ∧ Adv ι h w ι (h.del b) w := by
  have hdom : ∀ c x, (h.del b).get c = some x → h.get c = some x := by
    intro c x hx
    by_cases e : c = b
    · subst e; rw [Heap.get_del_same] at hx; cases hx
    · rw [Heap.get_del_other e] at hx; exact hx
  refine ⟨⟨fun c x hx => hr.obj c x (hdom c x hx), fun c c' x x' bi1 bi2 h1 h2 i1 i2 heq => hr.inj c c' x x' bi1 bi2 (hdom _ _ h1) (hdom _ _ h2) i1 i2 heq, hr.fresh, hr.glo, hr.gn⟩,
    ⟨.refl _, Nat.le_refl _, fun _ _ _ => rfl, ?_, Nat.le_refl _, fun _ _ => rfl, rfl, rfl, rfl, fun _ h => h⟩⟩
  rintro c ⟨d, x, bi1, h1, i1, rfl⟩ _
  exact ⟨d, x, bi1, hdom _ _ h1, i1, rfl⟩

end Go.Dx
