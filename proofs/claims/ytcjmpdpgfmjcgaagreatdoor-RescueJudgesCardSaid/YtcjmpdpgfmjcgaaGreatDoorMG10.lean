/- M1: matchings, with no program in sight: what a search for places leaves, whether it succeeds or not; reels fit by places just if they fit by counts. -/
namespace Go.Mt
variable {P : Type}

/-- Each of some reels has a place of its own that it can use. -/
def Fit (adj : Nat → P → Prop) (K : List Nat) : Prop := ∃ f : Nat → P, (∀ r ∈ K, adj r (f r)) ∧ ∀ r ∈ K, ∀ s ∈ K, f r = f s → r = s
theorem Fit.mono {adj : Nat → P → Prop} {K K' : List Nat} (h : Fit adj K') (hs : ∀ r ∈ K, r ∈ K') : Fit adj K := by
  obtain ⟨f, h1, h2⟩ := h
  exact ⟨f, fun r hr => h1 r (hs r hr), fun r hr s hs' => h2 r (hs r hr) s (hs s hs')⟩
theorem Fit.congr {adj adj' : Nat → P → Prop} {K K' : List Nat} (ha : ∀ r ∈ K, ∀ p, adj r p ↔ adj' r p) (hk : ∀ r, r ∈ K ↔ r ∈ K') : Fit adj K ↔ Fit adj' K' := by
  constructor
  · rintro ⟨f, h1, h2⟩
    exact ⟨f, fun r hr => (ha r ((hk r).2 hr) _).1 (h1 r ((hk r).2 hr)), fun r hr s hs => h2 r ((hk r).2 hr) s ((hk s).2 hs)⟩
  · rintro ⟨f, h1, h2⟩
    exact ⟨f, fun r hr => (ha r hr _).2 (h1 r ((hk r).1 hr)), fun r hr s hs => h2 r ((hk r).1 hr) s ((hk s).1 hs)⟩

/-- A list without repetition whose elements are all in another one is no longer. -/
theorem nodup_le {α : Type} [DecidableEq α] : ∀ {l m : List α}, l.Nodup → (∀ x ∈ l, x ∈ m) → l.length ≤ m.length
  | [], _, _, _ => Nat.zero_le _
  | a :: l, m, hn, hs => by
    rw [List.nodup_cons] at hn
    have ha := hs a List.mem_cons_self
    have := nodup_le (l := l) (m := m.erase a) hn.2 (fun x hx => by
      rw [List.mem_erase_of_ne (fun e => hn.1 (by rw [← e]; exact hx))]
      exact hs x (List.mem_cons_of_mem _ hx))
    rw [List.length_erase_of_mem ha] at this
    have hp : 0 < m.length := List.length_pos_of_mem ha
    simp only [List.length_cons]
    omega

theorem map_nodup {α β : Type} {f : α → β} : ∀ {l : List α}, (∀ a ∈ l, ∀ b ∈ l, f a = f b → a = b) → l.Nodup → (l.map f).Nodup
  | [], _, _ => by simp
  | a :: l, hi, hn => by
    rw [List.nodup_cons] at hn
    rw [List.map_cons, List.nodup_cons]
    refine ⟨fun hm => ?_, map_nodup (fun x hx y hy => hi x (List.mem_cons_of_mem _ hx) y (List.mem_cons_of_mem _ hy)) hn.2⟩
    obtain ⟨b, hb, e⟩ := List.mem_map.1 hm
    have := hi b (List.mem_cons_of_mem _ hb) a List.mem_cons_self e
    exact hn.1 (by rw [← this]; exact hb)

/-- Who has which place: some places (X) still name one that has another place by now. -/
structure M (adj : Nat → P → Prop) (T : P → Option Nat) (K : List Nat) (f : Nat → P) (X : P → Prop) : Prop where
  has : ∀ r ∈ K, T (f r) = some r ∧ ¬ X (f r)
  can : ∀ r ∈ K, adj r (f r)
  inv : ∀ p r, ¬ X p → T p = some r → r ∈ K ∧ f r = p
theorem M.fit {adj : Nat → P → Prop} {T : P → Option Nat} {K : List Nat} {f : Nat → P} {X : P → Prop} (h : M adj T K f X) : Fit adj K :=
  ⟨f, h.can, fun r hr s hs e => by have h1 := (h.has r hr).1; rw [e, (h.has s hs).1] at h1; cases h1; rfl⟩

/-- A search for a place for r succeeded. -/
structure Won (adj : Nat → P → Prop) (S : List P) (T T' : P → Option Nat) (r : Nat) : Prop where
  now : ∀ K f X, M adj T K f X → r ∉ K → (∀ p, X p → p ∈ S) → ∃ f', M adj T' (r :: K) f' X
  keep : ∀ p ∈ S, T' p = T p
/-- What has been looked at in vain. -/
def Vain (adj : Nat → P → Prop) (S S' : List P) (T : P → Option Nat) : Prop := ∀ p ∈ S', p ∉ S → ∃ s, T p = some s ∧ ∀ q, adj s q → q ∈ S'
/-- A search for a place for r failed. -/
structure Lost (adj : Nat → P → Prop) (S S' : List P) (T : P → Option Nat) (r : Nat) : Prop where
  all : ∀ p, adj r p → p ∈ S'
  vain : Vain adj S S' T

section
variable {adj : Nat → P → Prop} {S S1 : List P} {T T' : P → Option Nat} {r : Nat}
theorem Won.anti (h : Won adj S1 T T' r) (hs : ∀ q ∈ S, q ∈ S1) : Won adj S T T' r :=
  ⟨fun K f X hM hr hX => h.now K f X hM hr (fun q hq => hs q (hX q hq)), fun q hq => h.keep q (hs q hq)⟩
theorem vain_refl : Vain adj S S T := fun p hp hn => absurd hp hn
end
variable [DecidableEq P]
def setT (T : P → Option Nat) (p : P) (r : Nat) : P → Option Nat := fun q => if q = p then some r else T q
theorem setT_same (T : P → Option Nat) (p : P) (r : Nat) : setT T p r p = some r := by simp [setT]
theorem setT_other (T : P → Option Nat) {p q : P} (r : Nat) (h : q ≠ p) : setT T p r q = T q := by simp [setT, h]

section
variable {adj : Nat → P → Prop} {S S1 S3 : List P} {T T' : P → Option Nat} {r s : Nat} {p : P}
theorem won_free (ha : adj r p) (hp : p ∉ S) (hT : T p = none) : Won adj S T (setT T p r) r := by
  refine ⟨fun K f X hM hr hX => ⟨fun x => if x = r then p else f x, ?_⟩, fun q hq => setT_other _ _ (fun e => hp (by rw [← e]; exact hq))⟩
  have hXp : ¬ X p := fun hx => hp (hX p hx)
  have hne : ∀ x ∈ K, x ≠ r := fun x hx e => hr (by rw [← e]; exact hx)
  constructor
  · intro x hx
    rcases List.mem_cons.1 hx with e | g
    · subst e; simp only [if_true]; exact ⟨setT_same _ _ _, hXp⟩
    · have := hM.has x g
      simp only [hne x g, if_false]
      refine ⟨?_, this.2⟩
      rw [setT_other _ _ (fun e => by rw [e, hT] at this; cases this.1)]
      exact this.1
  · intro x hx
    rcases List.mem_cons.1 hx with e | g
    · subst e; simp only [if_true]; exact ha
    · simp only [hne x g, if_false]; exact hM.can x g
  · intro q x hq hx
    by_cases e : q = p
    · subst e
      rw [setT_same] at hx; cases hx
      exact ⟨List.mem_cons_self, by simp⟩
    · rw [setT_other _ _ e] at hx
      obtain ⟨h1, h2⟩ := hM.inv q x hq hx
      refine ⟨List.mem_cons_of_mem _ h1, ?_⟩
      simp only [hne x h1, if_false]; exact h2
theorem won_move (ha : adj r p) (hp : p ∉ S) (hT : T p = some s) (hw : Won adj (S ++ [p]) T T' s) : Won adj S T (setT T' p r) r := by
  refine ⟨fun K f X hM hr hX => ?_, fun q hq => ?_⟩
  rotate_left
  · rw [setT_other _ _ (fun e => hp (by rw [← e]; exact hq))]
    exact hw.keep q (List.mem_append_left _ hq)
  have hXp : ¬ X p := fun hx => hp (hX p hx)
  obtain ⟨hs, hfs⟩ := hM.inv p s hXp hT
  have hM' : M adj T (K.filter fun x => decide (x ≠ s)) f (fun q => X q ∨ q = p) := by
    constructor
    · intro x hx
      obtain ⟨h1, h2⟩ := List.mem_filter.1 hx
      have h2 := of_decide_eq_true h2
      have := hM.has x h1
      refine ⟨this.1, ?_⟩
      rintro (g | g)
      · exact this.2 g
      · rw [g, hT] at this; exact h2 (by cases this.1; rfl)
    · intro x hx; exact hM.can x (List.mem_filter.1 hx).1
    · intro q x hq hx
      obtain ⟨h1, h2⟩ := hM.inv q x (fun g => hq (.inl g)) hx
      refine ⟨List.mem_filter.2 ⟨h1, decide_eq_true fun e => hq (.inr ?_)⟩, h2⟩
      rw [← h2, e, hfs]
  obtain ⟨f', hM2⟩ := hw.now _ _ _ hM' (fun hm => by have := of_decide_eq_true (List.mem_filter.1 hm).2; exact this rfl) (fun q hq => by
    rcases hq with g | g
    · exact List.mem_append_left _ (hX q g)
    · rw [g]; exact List.mem_append_right _ List.mem_cons_self)
  refine ⟨fun x => if x = r then p else f' x, ?_⟩
  have hne : ∀ x ∈ K, x ≠ r := fun x hx e => hr (by rw [← e]; exact hx)
  have hin : ∀ x ∈ K, x ∈ s :: K.filter fun x => decide (x ≠ s) := fun x hx => by
    by_cases e : x = s
    · rw [e]; exact List.mem_cons_self
    · exact List.mem_cons_of_mem _ (List.mem_filter.2 ⟨hx, decide_eq_true e⟩)
  constructor
  · intro x hx
    rcases List.mem_cons.1 hx with e | g
    · subst e; simp only [if_true]; exact ⟨setT_same _ _ _, hXp⟩
    · have := hM2.has x (hin x g)
      simp only [hne x g, if_false]
      refine ⟨?_, fun hx => this.2 (.inl hx)⟩
      rw [setT_other _ _ (fun e => this.2 (.inr e))]
      exact this.1
  · intro x hx
    rcases List.mem_cons.1 hx with e | g
    · subst e; simp only [if_true]; exact ha
    · simp only [hne x g, if_false]; exact hM2.can x (hin x g)
  · intro q x hq hx
    by_cases e : q = p
    · subst e
      rw [setT_same] at hx; cases hx
      exact ⟨List.mem_cons_self, by simp⟩
    · rw [setT_other _ _ e] at hx
      obtain ⟨h1, h2⟩ := hM2.inv q x (fun g => g.elim hq e) hx
      have hk : x ∈ K := by
        rcases List.mem_cons.1 h1 with g | g
        · rw [g]; exact hs
        · exact (List.mem_filter.1 g).1
      refine ⟨List.mem_cons_of_mem _ hk, ?_⟩
      simp only [hne x hk, if_false]; exact h2
/-- One more place, in vain. -/
theorem vain_step (hv : Vain adj S S1 T) (hT : T p = some s) (hs : ∀ q ∈ S1 ++ [p], q ∈ S3) (hl : Lost adj (S1 ++ [p]) S3 T s) : Vain adj S S3 T := by
  intro q hq hn
  by_cases h1 : q ∈ S1
  · obtain ⟨x, h2, h3⟩ := hv q h1 hn
    exact ⟨x, h2, fun y hy => hs y (List.mem_append_left _ (h3 y hy))⟩
  · by_cases h2 : q = p
    · subst h2; exact ⟨s, hT, hl.all⟩
    · exact hl.vain q hq (fun hm => by
        rcases List.mem_append.1 hm with g | g
        · exact h1 g
        · exact h2 (List.mem_singleton.1 g))
/-- What a search in vain shows: these reels do not fit. -/
theorem lost_unfit {K : List Nat} {f : Nat → P} (hM : M adj T K f (fun _ => False)) (hr : r ∉ K) (hn : S.Nodup) (hl : Lost adj [] S T r) : ¬ Fit adj (r :: K) := by
  rintro ⟨g, h1, h2⟩
  let own : P → Nat := fun p => (T p).getD 0
  have hown : ∀ p ∈ S, own p ∈ K ∧ f (own p) = p ∧ ∀ q, adj (own p) q → q ∈ S := by
    intro p hp
    obtain ⟨s, h3, h4⟩ := hl.vain p hp (by simp)
    have e : own p = s := by simp [own, h3]
    obtain ⟨h5, h6⟩ := hM.inv p s (fun x => x) h3
    rw [e]; exact ⟨h5, h6, h4⟩
  have hnd : (r :: S.map own).Nodup := by
    rw [List.nodup_cons]
    refine ⟨fun hm => ?_, map_nodup (fun a ha b hb e => ?_) hn⟩
    · obtain ⟨p, hp, e⟩ := List.mem_map.1 hm
      exact hr (by rw [← e]; exact (hown p hp).1)
    · rw [← (hown a ha).2.1, e, (hown b hb).2.1]
  have hsub : ∀ x ∈ r :: S.map own, x ∈ r :: K ∧ ∀ q, adj x q → q ∈ S := by
    intro x hx
    rcases List.mem_cons.1 hx with e | hm
    · rw [e]; exact ⟨List.mem_cons_self, hl.all⟩
    · obtain ⟨p, hp, e⟩ := List.mem_map.1 hm
      rw [← e]; exact ⟨List.mem_cons_of_mem _ (hown p hp).1, (hown p hp).2.2⟩
  have hnd2 : ((r :: S.map own).map g).Nodup := map_nodup (fun a ha b hb e => h2 a (hsub a ha).1 b (hsub b hb).1 e) hnd
  have := nodup_le hnd2 (m := S) (fun y hy => by
    obtain ⟨x, hx, e⟩ := List.mem_map.1 hy
    rw [← e]; exact (hsub x hx).2 _ (h1 x (hsub x hx).1))
  simp at this
  omega
end

/-! ### by counts -/
/-- Reels fit by counts: each has a cell that it can use, and no cell has more than it holds. -/
def FitC {C : Type} [DecidableEq C] (adj : Nat → C → Prop) (cap : C → Nat) (K : List Nat) : Prop := ∃ f : Nat → C, (∀ r ∈ K, adj r (f r)) ∧ ∀ c, (K.filter fun r => decide (f r = c)).length ≤ cap c
theorem idx_lt {α : Type} [DecidableEq α] {a : α} {l : List α} (h : a ∈ l) : l.idxOf a < l.length := List.idxOf_lt_length_of_mem h
/-- Places of cells: for each cell a list of numbers without repetition. -/
theorem fit_iff {C : Type} [DecidableEq C] {adjC : Nat → C → Prop} {adj : Nat → C × Nat → Prop} {N : C → List Nat} (hN : ∀ c, (N c).Nodup) {K : List Nat} (hK : K.Nodup) (ha : ∀ r ∈ K, ∀ c n, adj r (c, n) ↔ adjC r c ∧ n ∈ N c) :
    Fit adj K ↔ FitC adjC (fun c => (N c).length) K := by
  constructor
  · rintro ⟨f, h1, h2⟩
    refine ⟨fun r => (f r).1, fun r hr => ((ha r hr _ _).1 (h1 r hr)).1, fun c => ?_⟩
    have := nodup_le (l := (K.filter fun r => decide ((f r).1 = c)).map fun r => (f r).2) (m := N c) (map_nodup (fun a hA b hB e => ?_) (hK.filter _)) (fun n hn => ?_)
    · simpa using this
    · obtain ⟨a1, a2⟩ := List.mem_filter.1 hA
      obtain ⟨b1, b2⟩ := List.mem_filter.1 hB
      exact h2 a a1 b b1 (Prod.ext ((of_decide_eq_true a2).trans (of_decide_eq_true b2).symm) e)
    · obtain ⟨a, hA, e⟩ := List.mem_map.1 hn
      obtain ⟨a1, a2⟩ := List.mem_filter.1 hA
      have := ((ha a a1 _ _).1 (h1 a a1)).2
      rw [of_decide_eq_true a2] at this
      rw [← e]; exact this
  · rintro ⟨f, h1, h2⟩
    let i : Nat → Nat := fun r => (K.filter fun s => decide (f s = f r)).idxOf r
    have hi : ∀ r ∈ K, r ∈ K.filter fun s => decide (f s = f r) := fun r hr => List.mem_filter.2 ⟨hr, decide_eq_true rfl⟩
    have hlt : ∀ r ∈ K, i r < (N (f r)).length := fun r hr => Nat.lt_of_lt_of_le (idx_lt (hi r hr)) (h2 (f r))
    refine ⟨fun r => (f r, (N (f r)).getD (i r) 0), fun r hr => (ha r hr _ _).2 ⟨h1 r hr, ?_⟩, fun r hr s hs e => ?_⟩
    · rw [List.getD_eq_getElem?_getD, List.getElem?_eq_getElem (hlt r hr)]
      exact List.getElem_mem _
    · simp only [Prod.mk.injEq] at e
      obtain ⟨e1, e2⟩ := e
      have hs' : i s < (N (f r)).length := by rw [e1]; exact hlt s hs
      rw [← e1, List.getD_eq_getElem?_getD, List.getD_eq_getElem?_getD, List.getElem?_eq_getElem (hlt r hr), List.getElem?_eq_getElem hs'] at e2
      have e3 : i r = i s := (List.getElem_inj (hN (f r))).1 e2
      have m1 := hi r hr
      have m2 := hi s hs
      have e4 : (K.filter fun x => decide (f x = f s)) = K.filter fun x => decide (f x = f r) := by rw [e1]
      have g1 := List.getElem_idxOf (idx_lt m1)
      have g2 := List.getElem_idxOf (idx_lt m2)
      have g3 : (K.filter fun x => decide (f x = f r))[i r]? = some r := by rw [List.getElem?_eq_getElem (idx_lt m1)]; exact congrArg some g1
      have g4 : (K.filter fun x => decide (f x = f s))[i s]? = some s := by rw [List.getElem?_eq_getElem (idx_lt m2)]; exact congrArg some g2
      rw [e4, ← e3, g3] at g4
      cases g4; rfl
end Go.Mt
