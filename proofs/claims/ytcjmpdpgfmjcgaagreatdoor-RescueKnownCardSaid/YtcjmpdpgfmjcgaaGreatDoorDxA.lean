/- DxA: a trie without a bound on its keys. -/
import Derived.CallsIn
import Derived.OrdersIn
namespace Go.Dx

/-! ### A trie: 0 is the node's own key; j + 1 lies in the kid number 'j mod 4', under 'j / 4' -/
inductive Tr (α : Type) where
  | e
  | n (v : Option α) (a b c d : Tr α)

noncomputable def tget {α : Type} (t : Tr α) : Nat → Option α :=
  @Tr.rec α (fun _ => Nat → Option α) (fun _ => none)
    (fun v _ _ _ _ ia ib ic id k => @Nat.rec (fun _ => Option α) v
      (fun j _ => @Nat.rec (fun _ => Option α) (ia (Nat.div j 4))
        (fun m _ => @Nat.rec (fun _ => Option α) (ib (Nat.div j 4))
          (fun m _ => @Nat.rec (fun _ => Option α) (ic (Nat.div j 4)) (fun _ _ => id (Nat.div j 4)) m) m) (Nat.mod j 4)) k) t

noncomputable def tput {α : Type} (ih : Tr α → Nat → Tr α) (x v : Option α) (a b c d : Tr α) (k : Nat) : Tr α :=
  @Nat.rec (fun _ => Tr α) (.n x a b c d)
    (fun j _ => @Nat.rec (fun _ => Tr α) (.n v (ih a (Nat.div j 4)) b c d)
      (fun m _ => @Nat.rec (fun _ => Tr α) (.n v a (ih b (Nat.div j 4)) c d)
        (fun m _ => @Nat.rec (fun _ => Tr α) (.n v a b (ih c (Nat.div j 4)) d) (fun _ _ => .n v a b c (ih d (Nat.div j 4))) m) m) (Nat.mod j 4)) k
noncomputable def tsetF {α : Type} (x : Option α) (f : Nat) : Tr α → Nat → Tr α :=
  @Nat.rec (fun _ => Tr α → Nat → Tr α) (fun t _ => t)
    (fun _ ih t k => @Tr.rec α (fun _ => Tr α) (tput ih x none .e .e .e .e k) (fun v a b c d _ _ _ _ => tput ih x v a b c d k) t) f
noncomputable def tset {α : Type} (t : Tr α) (k : Nat) (x : Option α) : Tr α := tsetF x (Nat.succ k) t k

def Tr.val {α : Type} : Tr α → Option α
  | .n v _ _ _ _ => v
  | .e => none
def Tr.kid {α : Type} : Tr α → Nat → Tr α
  | .n _ a b c d, j => if j % 4 = 0 then a else if j % 4 = 1 then b else if j % 4 = 2 then c else d
  | .e, _ => .e

theorem mod4 (j : Nat) : j % 4 = 0 ∨ j % 4 = 1 ∨ j % 4 = 2 ∨ j % 4 = 3 := by omega

theorem tget_e {α : Type} (k : Nat) : tget (.e : Tr α) k = none := rfl
theorem tget_zero {α : Type} (t : Tr α) : tget t 0 = t.val := by cases t <;> rfl
theorem tget_succ {α : Type} (t : Tr α) (j : Nat) : tget t (j + 1) = tget (t.kid j) (j / 4) := by
  cases t with
  | e => rfl
  | n v a b c d =>
    show @Nat.rec (fun _ => Option α) (tget a (Nat.div j 4)) (fun m _ => @Nat.rec (fun _ => Option α) (tget b (Nat.div j 4))
          (fun m _ => @Nat.rec (fun _ => Option α) (tget c (Nat.div j 4)) (fun _ _ => tget d (Nat.div j 4)) m) m) (j % 4) = _
    rcases mod4 j with h | h | h | h <;> simp only [h, Tr.kid] <;> rfl

theorem tput_zero {α : Type} (ih : Tr α → Nat → Tr α) (x v : Option α) (a b c d : Tr α) : tput ih x v a b c d 0 = .n x a b c d := rfl
theorem tput_succ {α : Type} (ih : Tr α → Nat → Tr α) (x v : Option α) (a b c d : Tr α) (j : Nat) : (tput ih x v a b c d (j + 1)).val = v ∧
    (tput ih x v a b c d (j + 1)).kid j = ih ((Tr.n v a b c d).kid j) (j / 4) ∧ ∀ i, i % 4 ≠ j % 4 → (tput ih x v a b c d (j + 1)).kid i = (Tr.n v a b c d).kid i := by
  have e : tput ih x v a b c d (j + 1) = @Nat.rec (fun _ => Tr α) (.n v (ih a (Nat.div j 4)) b c d)
      (fun m _ => @Nat.rec (fun _ => Tr α) (.n v a (ih b (Nat.div j 4)) c d)
        (fun m _ => @Nat.rec (fun _ => Tr α) (.n v a b (ih c (Nat.div j 4)) d) (fun _ _ => .n v a b c (ih d (Nat.div j 4))) m) m) (j % 4) := rfl
  rw [e]
  rcases mod4 j with h | h | h | h <;> rw [h] <;> refine ⟨rfl, by simp only [Tr.kid, h]; rfl, fun i hi => ?_⟩ <;> rcases mod4 i with h' | h' | h' | h' <;> simp only [Tr.kid, h'] <;> first | rfl | omega

theorem tsetF_succ {α : Type} (x : Option α) (f : Nat) (t : Tr α) (k : Nat) : tsetF x (f + 1) t k = tput (tsetF x f) x t.val (t.kid 0) (t.kid 1) (t.kid 2) (t.kid 3) k := by
  cases t <;> rfl
theorem kids_eq {α : Type} (t : Tr α) (j : Nat) : (Tr.n t.val (t.kid 0) (t.kid 1) (t.kid 2) (t.kid 3)).kid j = t.kid j := by
  cases t with
  | e => simp only [Tr.kid]; split <;> (try split) <;> (try split) <;> rfl
  | n v a b c d => rfl

theorem tsetF_same {α : Type} (x : Option α) (f : Nat) : ∀ (t : Tr α) (k : Nat), k < f → tget (tsetF x f t k) k = x := by
  induction f with
  | zero => intro t k h; omega
  | succ f ih =>
    intro t k hk
    rw [tsetF_succ]
    cases k with
    | zero => rw [tput_zero]; rfl
    | succ j =>
      obtain ⟨_, h2, _⟩ := tput_succ (tsetF x f) x t.val (t.kid 0) (t.kid 1) (t.kid 2) (t.kid 3) j
      rw [tget_succ, h2]
      exact ih _ _ (by omega)
theorem tsetF_other {α : Type} (x : Option α) (f : Nat) : ∀ (t : Tr α) (k k' : Nat), k < f → k' ≠ k → tget (tsetF x f t k) k' = tget t k' := by
  induction f with
  | zero => intro t k k' h; omega
  | succ f ih =>
    intro t k k' hk hne
    rw [tsetF_succ]
    cases k with
    | zero =>
      rw [tput_zero]
      cases k' with
      | zero => exact absurd rfl hne
      | succ i => rw [tget_succ, tget_succ, ← kids_eq t i]; rfl
    | succ j =>
      obtain ⟨h1, h2, h3⟩ := tput_succ (tsetF x f) x t.val (t.kid 0) (t.kid 1) (t.kid 2) (t.kid 3) j
      cases k' with
      | zero => rw [tget_zero, tget_zero, h1]
      | succ i =>
        rw [tget_succ, tget_succ]
        by_cases hm : i % 4 = j % 4
        · have hk2 : ∀ t : Tr α, t.kid i = t.kid j := fun t => by cases t with
            | e => rfl
            | n v a b c d => simp only [Tr.kid, hm]
          rw [hk2, hk2, h2, kids_eq]
          exact ih _ _ _ (by omega) (by omega)
        · rw [h3 i hm, kids_eq]

theorem tget_tset_same {α : Type} (t : Tr α) (k : Nat) (x : Option α) : tget (tset t k x) k = x := tsetF_same x (k + 1) t k (by omega)
theorem tget_tset_other {α : Type} (t : Tr α) (k k' : Nat) (x : Option α) (h : k' ≠ k) : tget (tset t k x) k' = tget t k' := tsetF_other x (k + 1) t k k' (by omega) h

end Go.Dx
