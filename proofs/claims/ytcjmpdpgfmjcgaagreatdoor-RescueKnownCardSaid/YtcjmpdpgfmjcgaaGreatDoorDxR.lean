/- DxR: the abstract run is sound, part 1: frames, slots, guards. -/
import Derived.Test.YtcjmpdpgfmjcgaaGreatDoorDxQ
import Derived.RangeFuncIn
import Derived.RangeFuncLeaves
import Derived.Recover
namespace Go.Dx
variable {P : Program} {V : Nat → Nat → Bool} {ι : Iota}

/-- Temporaries and variables are kept apart. -/
def EI (V : Nat → Nat → Bool) (fn : FuncId) (e : Env) : Prop := (∀ p ∈ e.te, V fn p.1 = false) ∧ (∀ p ∈ e.va, V fn p.1 = true)

theorem lkL_mem {t : Nat} {l : List (Nat × Value)} {v : Value} (h : lkL t l = some v) : (t, v) ∈ l := by
  induction l with
  | nil => simp [lkL_nil] at h
  | cons p l ih =>
    rw [lkL_cons] at h
    split at h
    · rename_i e; cases h; subst e; exact List.mem_cons_self
    · exact List.mem_cons_of_mem _ (ih h)
theorem lkL_none {t : Nat} {l : List (Nat × Value)} (h : ∀ p ∈ l, p.1 ≠ t) : lkL t l = none := by
  cases hv : lkL t l with
  | none => rfl
  | some v => exact absurd rfl (h _ (lkL_mem hv))

theorem setL_nil (d : Nat) (v : Value) : setL d v [] = [(d, v)] := rfl
theorem setL_cons (d : Nat) (v : Value) (p : Nat × Value) (l : List (Nat × Value)) : setL d v (p :: l) = if p.1 = d then (d, v) :: l else p :: setL d v l := by
  show @Bool.casesOn (fun _ => List (Nat × Value)) (Nat.beq p.1 d) (p :: setL d v l) ((d, v) :: l) = _
  cases h : Nat.beq p.1 d
  · have : p.1 ≠ d := by intro e; subst e; simp at h
    simp [this]
  · have : p.1 = d := Nat.eq_of_beq_eq_true h
    simp [this]
theorem lkL_setL (d : Nat) (v : Value) (t : Nat) : ∀ l : List (Nat × Value), lkL t (setL d v l) = if d = t then some v else lkL t l := by
  intro l
  induction l with
  | nil => rw [setL_nil, lkL_cons, lkL_nil]
  | cons p l ih =>
    rw [setL_cons]
    by_cases h : p.1 = d
    · rw [if_pos h, lkL_cons, lkL_cons]
      by_cases h2 : d = t
      · simp [h2]
      · simp [h2, h]
    · rw [if_neg h, lkL_cons, lkL_cons, ih]
      by_cases h2 : p.1 = t
      · have : ¬ d = t := fun e => h (by rw [h2, e])
        simp [h2, this]
      · simp [h2]
theorem mem_setL {d : Nat} {v : Value} {q : Nat × Value} : ∀ {l : List (Nat × Value)}, q ∈ setL d v l → q = (d, v) ∨ q ∈ l := by
  intro l
  induction l with
  | nil => intro h; rw [setL_nil] at h; simp at h; exact .inl h
  | cons p l ih =>
    intro h
    rw [setL_cons] at h
    split at h
    · rcases List.mem_cons.1 h with h | h
      · exact .inl h
      · exact .inr (List.mem_cons_of_mem _ h)
    · rcases List.mem_cons.1 h with h | h
      · exact .inr (by rw [h]; exact List.mem_cons_self)
      · rcases ih h with h | h
        · exact .inl h
        · exact .inr (List.mem_cons_of_mem _ h)

theorem lk_putE {fn : FuncId} {e : Env} (hi : EI V fn e) (d : Nat) (v : Value) (t : Nat) : lk t (putE V fn d v e) = if d = t then some v else lk t e := by
  unfold putE
  cases hV : V fn d
  · simp only [lk_eq, lkL_cons]
    by_cases h : d = t
    · simp [h]
    · simp [h]
  · simp only [lk_eq, lkL_setL]
    by_cases h : d = t
    · subst h
      have : lkL d e.te = none := lkL_none fun p hp he => by have := hi.1 p hp; rw [he, hV] at this; cases this
      simp [this]
    · simp [h]
theorem EI.putE {fn : FuncId} {e : Env} (hi : EI V fn e) (d : Nat) (v : Value) : EI V fn (putE V fn d v e) := by
  unfold Dx.putE
  cases hV : V fn d
  · exact ⟨fun p hp => by
      rcases List.mem_cons.1 hp with h | h
      · rw [h]; exact hV
      · exact hi.1 p h, hi.2⟩
  · refine ⟨hi.1, fun p hp => ?_⟩
    rcases mem_setL hp with h | h
    · rw [h]; exact hV
    · exact hi.2 p h
theorem EI.clear {fn : FuncId} {e : Env} (hi : EI V fn e) : EI V fn ⟨[], e.va⟩ := ⟨(fun p hp => nomatch hp), hi.2⟩
theorem lk_clear {fn : FuncId} {e : Env} (hi : EI V fn e) {t : Nat} {v : Value} (h : lk t ⟨[], e.va⟩ = some v) : lk t e = some v := by
  rw [lk_eq] at h ⊢
  simp only [lkL_nil] at h
  have hm := lkL_mem h
  have hv := hi.2 _ hm
  have : lkL t e.te = none := lkL_none fun p hp he => by have := hi.1 p hp; rw [he, hv] at this; cases this
  rw [this]; exact h

/-- The deferred calls of a frame. -/
inductive DR (ι : Iota) : List ADef → List Deferred → Prop where
  | nil : DR ι [] []
  | coll {r : Nat} {bi : BI} {ds : List ADef} {l : List Deferred} : ι r = some bi → DR ι ds l → DR ι (.coll r :: ds) ({ target := .collected bi.blk, args := #[] } :: l)
  | fn (f : FuncId) {args cap : List Value} {args' cap' : Array Value} {ds : List ADef} {l : List Deferred} : VRL ι args args'.toList → VRL ι cap cap'.toList → DR ι ds l →
      DR ι (.fn f args cap :: ds) ({ target := .fn (.func f) cap', args := args' } :: l)
theorem DR.mono {ι' : Iota} (hs : Sub ι ι') {ds : List ADef} {l : List Deferred} (h : DR ι ds l) : DR ι' ds l := by
  induction h with
  | nil => exact .nil
  | coll h _ ih => exact .coll (hs _ _ h) ih
  | fn f a b _ ih => exact .fn f (a.mono hs) (b.mono hs) ih

structure FR (V : Nat → Nat → Bool) (fr : Fr) (ι : Iota) (e : Env) (ds : List ADef) (a : Act) : Prop where
  env : EnvR ι e a.tmps
  ei : EI V fr.fn e
  sz : a.tmps.size = fr.nt
  df : DR ι ds a.defers

theorem FR.mono {ι' : Iota} {fr : Fr} {e : Env} {ds : List ADef} {a : Act} (h : FR V fr ι e ds a) (hs : Sub ι ι') : FR V fr ι' e ds a := ⟨h.env.mono hs, h.ei, h.sz, h.df.mono hs⟩
theorem FR.clear {fr : Fr} {e : Env} {ds : List ADef} {a : Act} (h : FR V fr ι e ds a) : FR V fr ι ⟨[], e.va⟩ ds a :=
  ⟨fun t v hv => h.env t v (lk_clear h.ei hv), h.ei.clear, h.sz, h.df⟩

theorem FR.putE {fr : Fr} {e : Env} {ds : List ADef} {a : Act} (h : FR V fr ι e ds a) {d : Nat} (hd : d < fr.nt) {v v' : Value} (hv : VR ι v v') : FR V fr ι (putE V fr.fn d v e) ds { a with tmps := a.tmps.setIfInBounds d v' } := by
  refine ⟨fun t x hx => ?_, h.ei.putE d v, by simp [h.sz], h.df⟩
  rw [lk_putE h.ei] at hx
  by_cases e1 : d = t
  · subst e1
    simp at hx; subst hx
    exact ⟨v', by simp [h.sz, hd], hv⟩
  · simp [e1] at hx
    obtain ⟨x', h1, h2⟩ := h.env t x hx
    exact ⟨x', by simp only; rw [Array.getElem?_setIfInBounds_ne e1]; exact h1, h2⟩

theorem FR.put {fr : Fr} {e e' : Env} {ds : List ADef} {a : Act} (h : FR V fr ι e ds a) {o : Oper} {v v' : Value} (hv : VR ι v v') (hp : put V fr o v e = some e') : FR V fr ι e' ds (a.put o.dst v') := by
  unfold Dx.put at hp
  split at hp
  · rename_i hd; cases hp; rw [hd]; exact h
  · rename_i d hd
    cases hb : Nat.blt d fr.nt
    · rw [hb] at hp; cases hp
    · rw [hb] at hp; cases hp
      rw [hd]
      exact h.putE (Nat.le_of_ble_eq_true hb) hv

theorem gd_soundE {e : Env} {a : Act} (he : EnvR ι e a.tmps) {ops : Array Oper} {o : Oper} {b : Bool} (hg : gd ops.toList o e = some b) : Region.wanted o (yielded ops a.tmps) = b := by
  unfold gd at hg
  unfold Region.wanted
  split at hg
  · rename_i hn; cases hg; rw [hn]
  · rename_i j want hj
    rw [hj]
    simp only
    rw [nth_eq] at hg
    split at hg
    · rename_i oj hoj
      have hoj' : ops[j]? = some oj := by simpa using hoj
      split at hg
      · rename_i d hd
        split at hg
        · rename_i q hq
          cases hg
          obtain ⟨v', h1, h2⟩ := he d _ hq
          cases h2
          unfold yielded
          simp only [hoj', Option.bind_some, hd, h1]
          cases q <;> cases want <;> rfl
        · rename_i v hv hq
          cases hg
          obtain ⟨v', h1, h2⟩ := he d _ hq
          have : yielded ops a.tmps j = none := by
            unfold yielded
            simp only [hoj', Option.bind_some, hd, h1]
            cases h2 <;> first | rfl | (exact absurd rfl (hv _))
          rw [this]; rfl
        · cases hg
      · rename_i hd
        cases hg
        have : yielded ops a.tmps j = none := by unfold yielded; simp [hoj', hd]
        rw [this]; rfl
    · rename_i hoj
      cases hg
      have hoj' : ops[j]? = none := by simpa using hoj
      have : yielded ops a.tmps j = none := by unfold yielded; simp [hoj']
      rw [this]; rfl

theorem gd_sound {fr : Fr} {e : Env} {ds : List ADef} {a : Act} (h : FR V fr ι e ds a) {ops : Array Oper} {o : Oper} {b : Bool} (hg : gd ops.toList o e = some b) : Region.wanted o (yielded ops a.tmps) = b := gd_soundE h.env hg

/-- The fence of a frame: none; for a round, the loop's. -/
def FenR (ι : Iota) (rd : Option Nat) (F : Fence) : Prop :=
  match rd with
  | none => F = Fence.wide
  | some l => ∃ bi, ι l = some bi ∧ F = Fence.wide.inRound bi.blk
theorem FenR.mono {ι' : Iota} (hs : Sub ι ι') {rd : Option Nat} {F : Fence} (h : FenR ι rd F) : FenR ι' rd F := by
  cases rd with
  | none => exact h
  | some l => obtain ⟨bi, h1, h2⟩ := h; exact ⟨bi, hs _ _ h1, h2⟩
theorem FenR.fn {rd : Option Nat} {F : Fence} (h : FenR ι rd F) (f : FuncId) : F.fn f := by
  cases rd with
  | none => rw [h]; trivial
  | some l => obtain ⟨bi, _, rfl⟩ := h; trivial
theorem FenR.depth {rd : Option Nat} {F : Fence} (h : FenR ι rd F) : F.depth = none := by
  cases rd with
  | none => rw [h]; rfl
  | some l => obtain ⟨bi, _, rfl⟩ := h; rfl
theorem FenR.calls {rd : Option Nat} {F : Fence} (h : FenR ι rd F) {n : Nat} {f : FuncId} {args : Array Value} {w : World} {R : Ending → World → Prop} (hc : Calls P f args w R) : CallsIn F n P f args w R := by
  cases rd with
  | none => rw [h]; exact callsIn_wide.2 hc
  | some l => obtain ⟨bi, _, rfl⟩ := h; exact (callsIn_wide (n := n)).2 hc
theorem FenR.round {rd : Option Nat} {F : Fence} (h : FenR ι rd F) : F.round = none ↔ rd = none := by
  cases rd with
  | none => rw [h]; simp [Fence.wide]
  | some l => obtain ⟨bi, _, rfl⟩ := h; simp [Fence.inRound]

/-- How the body of a frame is left. -/
inductive XR (ι : Iota) : AExit → Exit → Prop where
  | normal : XR ι .normal .normal
  | exit (id : Nat) : XR ι (.exit id) (.exit id)
  | goto (l : Nat) : XR ι (.goto l) (.goto l)
  | ret : XR ι .ret .ret
  | pan {v v' : Value} : VR ι v v' → XR ι (.pan v) (.panic [{ v := v', recovered := false }])

/-- What code comes to. -/
def PostC (V : Nat → Nat → Bool) (fr : Fr) (ι : Iota) (h : Heap) (w : World) (x : AExit) (e' : Env) (ds' : List ADef) (h' : Heap) : Exit → Act → World → Prop := fun ex a' w' =>
  ∃ ι', Adv ι h w ι' h' w' ∧ HR ι' h' w'.heap ∧ FR V fr ι' e' ds' a' ∧ XR ι' x ex

/-- What a call comes to. -/
def PostV (ι : Iota) (h : Heap) (w : World) : VS → Ending → World → Prop
  | .ret v h' => fun e w' => ∃ ι' v', e = .returned v' ∧ VR ι' v v' ∧ HR ι' h' w'.heap ∧ Adv ι h w ι' h' w'
  | .pan v h' => fun e w' => ∃ ι' v', e = .panicked [{ v := v', recovered := false }] ∧ VR ι' v v' ∧ HR ι' h' w'.heap ∧ Adv ι h w ι' h' w'
  | .no => fun _ _ => False

structure EvOK (P : Program) (V : Nat → Nat → Bool) (ev : Ev) : Prop where
  code : ∀ {fr : Fr} {c : Code} {e : Env} {ds : List ADef} {h : Heap} {x : AExit} {e' : Env} {ds' : List ADef} {h' : Heap}, ev.code fr c e ds h = .ok x e' ds' h' →
    ∀ {ι : Iota} {w : World} {a : Act} {F : Fence}, HR ι h w.heap → FR V fr ι e ds a → FenR ι fr.rd F → c.wpIn F 0 P (PostC V fr ι h w x e' ds' h') a w
  call : ∀ {g : FuncId} {args : List Value} {h : Heap} {r : VS}, ev.call g args h = r → r ≠ .no →
    ∀ {ι : Iota} {w : World} {args' : Array Value}, HR ι h w.heap → VRL ι args args'.toList → Calls P g args' w (PostV ι h w r)

end Go.Dx
