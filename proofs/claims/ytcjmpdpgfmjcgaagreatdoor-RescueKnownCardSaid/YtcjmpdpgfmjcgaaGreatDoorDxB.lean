/- DxB: values and heaps of the abstract run, related to the model's by an injection of block numbers. -/
import Derived.Test.YtcjmpdpgfmjcgaaGreatDoorDxA
import Derived.Laws.Cells
import Derived.Laws.CopyRow
namespace Go.Dx

/-- Of an abstract block: the real block, how many cells it has there, and (for a slice's row that was grown) the size of an element. -/
structure BI where
  blk : Nat
  cnt : Nat
  sz : Nat

abbrev Iota := Nat → Option BI

mutual
inductive VR (ι : Iota) : Value → Value → Prop where
  | bool (b : Bool) : VR ι (.bool b) (.bool b)
  | int (k : IntKind) (n : Int) : VR ι (.int k n) (.int k n)
  | str (s : ByteArray) : VR ι (.string s) (.string s)
  | ptr0 : VR ι (.pointer none) (.pointer none)
  | ptr {b o : Nat} {bi : BI} : ι b = some bi → VR ι (.pointer (some ⟨b, o, none⟩)) (.pointer (some ⟨bi.blk, o, none⟩))
  | sl0 (l c : Nat) : VR ι (.slice none l c) (.slice none l c)
  | sl {b o l c : Nat} {bi : BI} : ι b = some bi → VR ι (.slice (some ⟨b, o, none⟩) l c) (.slice (some ⟨bi.blk, o, none⟩) l c)
  | slo {b o l c c' : Nat} {bi : BI} : ι b = some bi → o + c' * bi.sz = bi.cnt → c ≤ c' → VR ι (.slice (some ⟨b, o, some bi.sz⟩) l c) (.slice (some ⟨bi.blk, o, none⟩) l c')
  | sle (b : Nat) (a : Addr) (c : Nat) : VR ι (.slice (some ⟨b, 0, some 0⟩) 0 0) (.slice (some a) 0 c)
  | map0 : VR ι (.map none) (.map none)
  | map {r : Nat} {bi : BI} : ι r = some bi → VR ι (.map (some r)) (.map (some bi.blk))
  | fn (f : FuncId) {a b a' b' : Array Value} : VRL ι a.toList a'.toList → VRL ι b.toList b'.toList → VR ι (.func (.func f) a b) (.func (.func f) a' b')
  | yield {l : Nat} {bi : BI} : ι l = some bi → VR ι (.func (.yield l) #[] #[]) (.func (.yield bi.blk) #[] #[])
  | nilFunc : VR ι .nilFunc .nilFunc
  | iface (t : TypeId) {v v' : Value} : VR ι v v' → VR ι (.iface t v) (.iface t v')
  | nilIface : VR ι .nilIface .nilIface
  | agg {a a' : Array Value} : VRL ι a.toList a'.toList → VR ι (.agg a) (.agg a')
  | tup {a a' : Array Value} : VRL ι a.toList a'.toList → VR ι (.tuple a) (.tuple a')
inductive VRL (ι : Iota) : List Value → List Value → Prop where
  | nil : VRL ι [] []
  | cons {v v' : Value} {l l' : List Value} : VR ι v v' → VRL ι l l' → VRL ι (v :: l) (v' :: l')
end

def Sub (ι ι' : Iota) : Prop := ∀ b bi, ι b = some bi → ι' b = some bi
theorem Sub.refl (ι : Iota) : Sub ι ι := fun _ _ h => h
theorem Sub.trans {ι ι' ι'' : Iota} (h : Sub ι ι') (h' : Sub ι' ι'') : Sub ι ι'' := fun b bi x => h' b bi (h b bi x)

mutual
theorem VR.mono {ι ι' : Iota} (hs : Sub ι ι') : ∀ {v v' : Value}, VR ι v v' → VR ι' v v'
  | _, _, .bool b => .bool b
  | _, _, .int k n => .int k n
  | _, _, .str s => .str s
  | _, _, .ptr0 => .ptr0
  | _, _, .ptr h => .ptr (hs _ _ h)
  | _, _, .sl0 l c => .sl0 l c
  | _, _, .sl h => .sl (hs _ _ h)
  | _, _, .slo h h1 h2 => .slo (hs _ _ h) h1 h2
  | _, _, .sle b a c => .sle b a c
  | _, _, .map0 => .map0
  | _, _, .map h => .map (hs _ _ h)
  | _, _, .fn f h1 h2 => .fn f (VRL.mono hs h1) (VRL.mono hs h2)
  | _, _, .yield h => .yield (hs _ _ h)
  | _, _, .nilFunc => .nilFunc
  | _, _, .iface t h => .iface t (VR.mono hs h)
  | _, _, .nilIface => .nilIface
  | _, _, .agg h => .agg (VRL.mono hs h)
  | _, _, .tup h => .tup (VRL.mono hs h)
theorem VRL.mono {ι ι' : Iota} (hs : Sub ι ι') : ∀ {l l' : List Value}, VRL ι l l' → VRL ι' l l'
  | _, _, .nil => .nil
  | _, _, .cons h t => .cons (VR.mono hs h) (VRL.mono hs t)
end

section lists
variable {ι : Iota}
theorem VRL.length {l l' : List Value} (h : VRL ι l l') : l.length = l'.length := by
  induction l generalizing l' with
  | nil => cases h; rfl
  | cons v l ih => cases h with | cons h t => simp [ih t]
theorem VRL.get {l l' : List Value} (h : VRL ι l l') (i : Nat) (v : Value) (hv : l[i]? = some v) : ∃ v', l'[i]? = some v' ∧ VR ι v v' := by
  induction l generalizing l' i with
  | nil => simp at hv
  | cons x l ih =>
    cases h with
    | cons h t =>
      cases i with
      | zero => simp at hv; subst hv; exact ⟨_, by simp, h⟩
      | succ i => simp at hv; obtain ⟨v', a, b⟩ := ih t i hv; exact ⟨v', by simpa using a, b⟩
theorem VRL.of_get {l l' : List Value} (hl : l.length = l'.length) (h : ∀ (i : Nat) (v v' : Value), l[i]? = some v → l'[i]? = some v' → VR ι v v') : VRL ι l l' := by
  induction l generalizing l' with
  | nil => cases l' with | nil => exact .nil | cons => simp at hl
  | cons x l ih =>
    cases l' with
    | nil => simp at hl
    | cons x' l' =>
      refine .cons (h 0 x x' (by simp) (by simp)) (ih (by simpa using hl) fun i v v' a b => h (i + 1) v v' (by simpa using a) (by simpa using b))
theorem VRL.append {l l' m m' : List Value} (h : VRL ι l l') (h' : VRL ι m m') : VRL ι (l ++ m) (l' ++ m') := by
  induction l generalizing l' with
  | nil => cases h; exact h'
  | cons v l ih => cases h with | cons h t => exact .cons h (ih t)
theorem VRL.take {l l' : List Value} (h : VRL ι l l') (n : Nat) : VRL ι (l.take n) (l'.take n) := by
  induction l generalizing l' n with
  | nil => cases h; simp; exact .nil
  | cons v l ih =>
    cases h with
    | cons h t =>
      cases n with
      | zero => simp; exact .nil
      | succ n => simp; exact .cons h (ih t n)
theorem VRL.drop {l l' : List Value} (h : VRL ι l l') (n : Nat) : VRL ι (l.drop n) (l'.drop n) := by
  induction l generalizing l' n with
  | nil => cases h; simp; exact .nil
  | cons v l ih =>
    cases h with
    | cons h t =>
      cases n with
      | zero => simp; exact .cons h t
      | succ n => simp; exact ih t n
theorem VRL.set {l l' : List Value} (h : VRL ι l l') {v v' : Value} (hv : VR ι v v') (i : Nat) : VRL ι (l.set i v) (l'.set i v') := by
  induction l generalizing l' i with
  | nil => cases h; simp; exact .nil
  | cons x l ih =>
    cases h with
    | cons h t =>
      cases i with
      | zero => exact .cons hv t
      | succ i => exact .cons h (ih t i)
theorem VRL.replicate {v v' : Value} (h : VR ι v v') (n : Nat) : VRL ι (List.replicate n v) (List.replicate n v') := by
  induction n with
  | zero => exact .nil
  | succ n ih => exact .cons h ih
theorem VR.cells {v v' : Value} (h : VR ι v v') : VRL ι v.cells.toList v'.cells.toList := by
  cases h with
  | agg h => exact h
  | bool b => exact .cons (.bool b) .nil
  | int k n => exact .cons (.int k n) .nil
  | str s => exact .cons (.str s) .nil
  | ptr0 => exact .cons .ptr0 .nil
  | ptr h => exact .cons (.ptr h) .nil
  | sl0 l c => exact .cons (.sl0 l c) .nil
  | sl h => exact .cons (.sl h) .nil
  | slo h a b => exact .cons (.slo h a b) .nil
  | sle b a c => exact .cons (.sle b a c) .nil
  | map0 => exact .cons .map0 .nil
  | map h => exact .cons (.map h) .nil
  | fn f a b => exact .cons (.fn f a b) .nil
  | yield h => exact .cons (.yield h) .nil
  | nilFunc => exact .cons .nilFunc .nil
  | iface t h => exact .cons (.iface t h) .nil
  | nilIface => exact .cons .nilIface .nil
  | tup h => exact .cons (.tup h) .nil
end lists

/-! ### Values without addresses -/
mutual
def flat : Value → Bool
  | .bool _ | .int _ _ | .string _ | .pointer none | .slice none _ _ | .map none | .nilFunc | .nilIface => true
  | .iface _ v => flat v
  | .agg ⟨l⟩ => flatL l
  | .tuple ⟨l⟩ => flatL l
  | .func (.func _) ⟨a⟩ ⟨b⟩ => flatL a && flatL b
  | _ => false
def flatL : List Value → Bool
  | [] => true
  | v :: l => flat v && flatL l
end
mutual
theorem VR.of_flat (ι : Iota) : ∀ {v : Value}, flat v = true → VR ι v v
  | .bool b, _ => .bool b
  | .int k n, _ => .int k n
  | .string s, _ => .str s
  | .pointer none, _ => .ptr0
  | .slice none l c, _ => .sl0 l c
  | .map none, _ => .map0
  | .nilFunc, _ => .nilFunc
  | .nilIface, _ => .nilIface
  | .iface t v, h => .iface t (VR.of_flat ι (by simpa [flat] using h))
  | .agg ⟨l⟩, h => .agg (VRL.of_flat ι (by simpa [flat] using h))
  | .tuple ⟨l⟩, h => .tup (VRL.of_flat ι (by simpa [flat] using h))
  | .func (.func f) ⟨a⟩ ⟨b⟩, h => by
      have h' : flatL a = true ∧ flatL b = true := by simpa [flat] using h
      exact .fn f (VRL.of_flat ι h'.1) (VRL.of_flat ι h'.2)
  | .pointer (some _), h | .slice (some _) _ _, h | .map (some _), h | .float _ _, h | .complex _ _ _, h | .chan _, h => by simp [flat] at h
  | .func (.method _) _ _, h | .func (.methodOf _ _) _ _, h | .func (.via _ _ _ _) _ _, h | .func (.yield _) _ _, h => by simp [flat] at h
theorem VRL.of_flat (ι : Iota) : ∀ {l : List Value}, flatL l = true → VRL ι l l
  | [], _ => .nil
  | v :: l, h => by
      have h' : flat v = true ∧ flatL l = true := by simpa [flatL] using h
      exact .cons (VR.of_flat ι h'.1) (VRL.of_flat ι h'.2)
end
mutual
theorem VR.flat_eq {ι : Iota} : ∀ {v v' : Value}, VR ι v v' → flat v = true → v' = v
  | _, _, .bool _, _ | _, _, .int _ _, _ | _, _, .str _, _ | _, _, .ptr0, _ | _, _, .sl0 _ _, _ | _, _, .map0, _ | _, _, .nilFunc, _ | _, _, .nilIface, _ => rfl
  | _, _, .ptr _, h | _, _, .sl _, h | _, _, .slo _ _ _, h | _, _, .sle _ _ _, h | _, _, .map _, h | _, _, .yield _, h => by simp [flat] at h
  | _, _, .iface t hv, h => by rw [VR.flat_eq hv (by simpa [flat] using h)]
  | _, _, .agg (a := ⟨a⟩) (a' := ⟨a'⟩) hl, h => by
      have e : a' = a := VRL.flat_eq hl (by simpa [flat] using h)
      rw [e]
  | _, _, .tup (a := ⟨a⟩) (a' := ⟨a'⟩) hl, h => by
      have e : a' = a := VRL.flat_eq hl (by simpa [flat] using h)
      rw [e]
  | _, _, .fn f (a := ⟨a⟩) (b := ⟨b⟩) (a' := ⟨a'⟩) (b' := ⟨b'⟩) h1 h2, h => by
      have h' : flatL a = true ∧ flatL b = true := by simpa [flat] using h
      have e1 : a' = a := VRL.flat_eq h1 h'.1
      have e2 : b' = b := VRL.flat_eq h2 h'.2
      rw [e1, e2]
theorem VRL.flat_eq {ι : Iota} : ∀ {l l' : List Value}, VRL ι l l' → flatL l = true → l' = l
  | _, _, .nil, _ => rfl
  | _, _, .cons h t, hf => by
      simp only [flatL, Bool.and_eq_true] at hf
      rw [VR.flat_eq h hf.1, VRL.flat_eq t hf.2]
end

end Go.Dx
