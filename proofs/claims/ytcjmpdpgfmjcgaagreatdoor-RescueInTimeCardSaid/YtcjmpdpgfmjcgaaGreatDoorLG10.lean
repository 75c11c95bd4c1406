/- M1: matchings, with no program in sight: what a search for places leaves, whether it succeeds or not; reels fit by places just if they fit by counts. -/
namespace Go.Mt
variable {P : Type}
def Fit (adj : Nat -> P -> Prop) (K : List Nat) : Prop := ∃ f : Nat -> P, (∀ r ∈ K, adj r (f r)) /\ ∀ r ∈ K, ∀ s ∈ K, f r = f s -> r = s
theorem Fit.mono {adj : Nat -> P -> Prop} {K K' : List Nat} (h : Fit adj K') (hs : ∀ r ∈ K, r ∈ K') : Fit adj K := by
 obtain ⟨f, h1, h2⟩ := h
 exact ⟨f, fun r hr => h1 r (hs r hr), fun r hr s hs' => h2 r (hs r hr) s (hs s hs')⟩
theorem Fit.congr {adj adj' : Nat -> P -> Prop} {K K' : List Nat} (ha : ∀ r ∈ K, ∀ p, adj r p ↔ adj' r p) (hk : ∀ r, r ∈ K ↔ r ∈ K') : Fit adj K ↔ Fit adj' K' := by
 constructor
 ·rintro ⟨f, h1, h2⟩
  exact ⟨f, fun r hr => (ha r ((hk r).2 hr) _).1 (h1 r ((hk r).2 hr)), fun r hr s hs => h2 r ((hk r).2 hr) s ((hk s).2 hs)⟩
 ·rintro ⟨f, h1, h2⟩
  exact ⟨f, fun r hr => (ha r hr _).2 (h1 r ((hk r).1 hr)), fun r hr s hs => h2 r ((hk r).1 hr) s ((hk s).1 hs)⟩
theorem nodup_le {α : Type} [DecidableEq α] : ∀ {l m : List α}, l.Nodup -> (∀ x ∈ l, x ∈ m) -> l.length <= m.length
 | [], _, _, _ => Nat.zero_le _
 | a :: l, m, hn, hs => by
  rw [List.nodup_cons] at hn
  have ha := hs a List.mem_cons_self
  have := nodup_le (l := l) (m := m.erase a) hn.2 (fun x hx => by
   rw [List.mem_erase_of_ne (fun e => hn.1 (by rw [<- e]; exact hx))]
   exact hs x (List.mem_cons_of_mem _ hx))
  rw [List.length_erase_of_mem ha] at this
  have hp : 0 < m.length := List.length_pos_of_mem ha
  simp only [List.length_cons]
  omega
theorem map_nodup {α β : Type} {f : α -> β} : ∀ {l : List α}, (∀ a ∈ l, ∀ b ∈ l, f a = f b -> a = b) -> l.Nodup -> (l.map f).Nodup
 | [], _, _ => by simp
 | a :: l, hi, hn => by
  rw [List.nodup_cons] at hn
  rw [List.map_cons, List.nodup_cons]
  refine ⟨fun hm => ?_, map_nodup (fun x hx y hy => hi x (List.mem_cons_of_mem _ hx) y (List.mem_cons_of_mem _ hy)) hn.2⟩
  obtain ⟨b, hb, e⟩ := List.mem_map.1 hm
  have := hi b (List.mem_cons_of_mem _ hb) a List.mem_cons_self e
  exact hn.1 (by rw [<- this]; exact hb)
structure M (adj : Nat -> P -> Prop) (T : P -> Option Nat) (K : List Nat) (f : Nat -> P) (X : P -> Prop) : Prop where
 has : ∀ r ∈ K, T (f r) = some r /\ ¬ X (f r)
 can : ∀ r ∈ K, adj r (f r)
 inv : ∀ p r, ¬ X p -> T p = some r -> r ∈ K /\ f r = p
theorem M.fit {adj : Nat -> P -> Prop} {T : P -> Option Nat} {K : List Nat} {f : Nat -> P} {X : P -> Prop} (h : M adj T K f X) : Fit adj K :=
 ⟨f, h.can, fun r hr s hs e => by have h1 := (h.has r hr).1; rw [e, (h.has s hs).1] at h1; cases h1; rfl⟩
structure Won (adj : Nat -> P -> Prop) (S : List P) (T T' : P -> Option Nat) (r : Nat) : Prop where
 now : ∀ K f X, M adj T K f X -> r ∉ K -> (∀ p, X p -> p ∈ S) -> ∃ f', M adj T' (r :: K) f' X
 keep : ∀ p ∈ S, T' p = T p
def Vain (adj : Nat -> P -> Prop) (S S' : List P) (T : P -> Option Nat) : Prop := ∀ p ∈ S', p ∉ S -> ∃ s, T p = some s /\ ∀ q, adj s q -> q ∈ S'
structure Lost (adj : Nat -> P -> Prop) (S S' : List P) (T : P -> Option Nat) (r : Nat) : Prop where
 all : ∀ p, adj r p -> p ∈ S'
 vain : Vain adj S S' T
section
variable {adj : Nat -> P -> Prop} {S S1 : List P} {T T' : P -> Option Nat} {r : Nat}
end
variable [DecidableEq P]
def setT (T : P -> Option Nat) (p : P) (r : Nat) : P -> Option Nat := fun q => if q = p then some r else T q
section
variable {adj : Nat -> P -> Prop} {S S1 S3 : List P} {T T' : P -> Option Nat} {r s : Nat} {p : P}
end
def FitC {C : Type} [DecidableEq C] (adj : Nat -> C -> Prop) (cap : C -> Nat) (K : List Nat) : Prop := ∃ f : Nat -> C, (∀ r ∈ K, adj r (f r)) /\ ∀ c, (K.filter fun r => decide (f r = c)).length <= cap c
theorem idx_lt {α : Type} [DecidableEq α] {a : α} {l : List α} (h : a ∈ l) : l.idxOf a < l.length := List.idxOf_lt_length_of_mem h
theorem fit_iff {C : Type} [DecidableEq C] {adjC : Nat -> C -> Prop} {adj : Nat -> C × Nat -> Prop} {N : C -> List Nat} (hN : ∀ c, (N c).Nodup) {K : List Nat} (hK : K.Nodup) (ha : ∀ r ∈ K, ∀ c n, adj r (c, n) ↔ adjC r c /\ n ∈ N c) :
  Fit adj K ↔ FitC adjC (fun c => (N c).length) K := by
 constructor
 ·rintro ⟨f, h1, h2⟩
  refine ⟨fun r => (f r).1, fun r hr => ((ha r hr _ _).1 (h1 r hr)).1, fun c => ?_⟩
  have := nodup_le (l := (K.filter fun r => decide ((f r).1 = c)).map fun r => (f r).2) (m := N c) (map_nodup (fun a hA b hB e => ?_) (hK.filter _)) (fun n hn => ?_)
  ·simpa using this
  ·obtain ⟨a1, a2⟩ := List.mem_filter.1 hA
   obtain ⟨b1, b2⟩ := List.mem_filter.1 hB
   exact h2 a a1 b b1 (Prod.ext ((of_decide_eq_true a2).trans (of_decide_eq_true b2).symm) e)
  ·obtain ⟨a, hA, e⟩ := List.mem_map.1 hn
   obtain ⟨a1, a2⟩ := List.mem_filter.1 hA
   have := ((ha a a1 _ _).1 (h1 a a1)).2
   rw [of_decide_eq_true a2] at this
   rw [<- e]; exact this
 ·rintro ⟨f, h1, h2⟩
  let i : Nat -> Nat := fun r => (K.filter fun s => decide (f s = f r)).idxOf r
  have hi : ∀ r ∈ K, r ∈ K.filter fun s => decide (f s = f r) := fun r hr => List.mem_filter.2 ⟨hr, decide_eq_true rfl⟩
  have hlt : ∀ r ∈ K, i r < (N (f r)).length := fun r hr => Nat.lt_of_lt_of_le (idx_lt (hi r hr)) (h2 (f r))
  refine ⟨fun r => (f r, (N (f r)).getD (i r) 0), fun r hr => (ha r hr _ _).2 ⟨h1 r hr, ?_⟩, fun r hr s hs e => ?_⟩
  ·rw [List.getD_eq_getElem?_getD, List.getElem?_eq_getElem (hlt r hr)]
   exact List.getElem_mem _
  ·simp only [Prod.mk.injEq] at e
   obtain ⟨e1, e2⟩ := e
   have hs' : i s < (N (f r)).length := by rw [e1]; exact hlt s hs
   rw [<- e1, List.getD_eq_getElem?_getD, List.getD_eq_getElem?_getD, List.getElem?_eq_getElem (hlt r hr), List.getElem?_eq_getElem hs'] at e2
   have e3 : i r = i s := (List.getElem_inj (hN (f r))).1 e2
   have m1 := hi r hr
   have m2 := hi s hs
   have e4 : (K.filter fun x => decide (f x = f s)) = K.filter fun x => decide (f x = f r) := by rw [e1]
   have g1 := List.getElem_idxOf (idx_lt m1)
   have g2 := List.getElem_idxOf (idx_lt m2)
   have g3 : (K.filter fun x => decide (f x = f r))[i r]? = some r := by rw [List.getElem?_eq_getElem (idx_lt m1)]; exact congrArg some g1
   have g4 : (K.filter fun x => decide (f x = f s))[i s]? = some s := by rw [List.getElem?_eq_getElem (idx_lt m2)]; exact congrArg some g2
   rw [e4, <- e3, g3] at g4
   cases g4; rfl
end Go.Mt
/- M2: matchings, with no program in sight: the reels that stand in the way of one; what is left least. -/
namespace Go.Mt
variable {P : Type} [DecidableEq P]
def Clo (adj : Nat -> P -> Prop) (f : Nat -> P) (K : List Nat) (r : Nat) (D : Nat -> Prop) : Prop := (∀ d, D d -> d ∈ K) /\ ∀ x, (x = r \/ D x) -> ∀ p, adj x p -> ∃ d, D d /\ f d = p
def Inj (f : Nat -> P) (K : List Nat) : Prop := ∀ r ∈ K, ∀ s ∈ K, f r = f s -> r = s
section
variable {adj : Nat -> P -> Prop} {f : Nat -> P} {K : List Nat} {r : Nat}
abbrev out1 (K : List Nat) (k : Nat) : List Nat := K.filter fun x => decide (x ≠ k)
def By (adj : Nat -> P -> Prop) (K : List Nat) (r : Nat) : Nat -> Prop := fun k => k ∈ K /\ Fit adj (r :: out1 K k)
def sumR (risk : Nat -> Nat) : List Nat -> Nat
 | [] => 0
 | r :: l => risk r + sumR risk l
def layers (risk : Nat -> Nat) (l : List Nat) : Nat -> Nat
 | 0 => 0
 | w + 1 => layers risk l w + (l.filter fun r => decide (w < risk r)).length
end
end Go.Mt
