/- DxX: the abstract run is sound, part 7: what drawn regions need: quiet operations, new blocks, views, loose blocks. -/
import Derived.Test.YtcjmpdpgfmjcgaaGreatDoorDxW
namespace Go.Dx
variable {P : Program} {V : Nat → Nat → Bool} {ι : Iota}

theorem aflat_heap {o : Oper} {h h' : Heap} {e : Env} {v : Value} (hs : aflat P o h e = .ok v h') : h' = h := by
  unfold aflat at hs
  cases h1 : isSel o.op
  · rw [h1] at hs
    cases h2 : o.op.operands.toList.all (flatOpd h e)
    · rw [h2] at hs; cases hs
    · rw [h2] at hs
      simp only at hs
      split at hs
      · rename_i v1 hp
        cases h3 : flat v1
        · rw [h3] at hs; cases hs
        · rw [h3] at hs; cases hs; rfl
      · cases hs
  · rw [h1] at hs; cases hs

theorem pMove_heap {h h' : Heap} {e : Env} {x : Operand} {v : Value} (hs : pMove h e x = .ok v h') : h' = h := by
  unfold pMove at hs
  split at hs
  · cases hs; rfl
  · cases hs

theorem abuiltin_heap {o : Oper} {b : Builtin} {args : List Operand} {ts : List TypeId} {h h' : Heap} {e : Env} {v : Value} (hb : b = .len ∨ b = .cap ∨ b = .min ∨ b = .max) (hs : abuiltin P o b args ts h e = .ok v h') : h' = h := by
  rcases hb with rfl | rfl | rfl | rfl <;> unfold abuiltin at hs <;> split at hs <;> first | exact aflat_heap hs | contradiction | ((repeat' split at hs) <;> cases hs; rfl) | cases hs

/-- An operation of the kind 'pure' leaves the heap. -/
theorem aop_heap {o : Oper} {h h' : Heap} {e : Env} {v : Value} (hq : qkind o.op = .pure) (hs : aop P o h e = .ok v h') : h' = h := by
  obtain ⟨dst, op, ty, pos, after, guard⟩ := o
  unfold aop at hs
  cases op with
  | move x => exact pMove_heap hs
  | pick c x y =>
    simp only [pPick] at hs
    split at hs
    · exact pMove_heap hs
    · exact pMove_heap hs
    · cases hs
  | build t ps => simp only [pBuild] at hs; (repeat' split at hs) <;> cases hs; rfl
  | load t x => simp only [pLoad] at hs; (repeat' split at hs) <;> cases hs; rfl
  | nilCheck x => simp only [pNil] at hs; (repeat' split at hs) <;> cases hs; rfl
  | binOp op t x y z => simp only [pBin] at hs; (repeat' split at hs) <;> first | (cases hs; rfl) | exact aflat_heap hs | cases hs
  | unOp op t x => simp only [pUn] at hs; (repeat' split at hs) <;> first | (cases hs; rfl) | exact aflat_heap hs | cases hs
  | convert a b c => exact aflat_heap hs
  | makeInterface t x => simp only [pIface] at hs; (repeat' split at hs) <;> cases hs; rfl
  | makeFunc fn x y => simp only [pFunc] at hs; (repeat' split at hs) <;> cases hs; rfl
  | slice t x lo hi mx => simp only [pSlice] at hs; (repeat' split at hs) <;> first | (cases hs; rfl) | exact aflat_heap hs | cases hs
  | fieldAddr t x f => simp only [pFieldAddr] at hs; (repeat' split at hs) <;> cases hs; rfl
  | field t x f => simp only [pField] at hs; (repeat' split at hs) <;> cases hs; rfl
  | indexAddr t x i => simp only [pIndexAddr] at hs; (repeat' split at hs) <;> cases hs; rfl
  | index t x i => simp only [pIndex] at hs; (repeat' split at hs) <;> cases hs; rfl
  | lookup t x k ok => simp only [pLookup] at hs; (repeat' split at hs) <;> cases hs; rfl
  | typeAssert x t s ok => simp only [pAssert] at hs; (repeat' split at hs) <;> cases hs; rfl
  | extract x i => simp only [pExtract] at hs; (repeat' split at hs) <;> cases hs; rfl
  | call c =>
    simp only [pCall] at hs
    simp only [qkind] at hq
    split at hs
    · rename_i b hb
      rw [hb] at hq
      refine abuiltin_heap (b := b) ?_ hs
      cases b <;> first | exact .inl rfl | exact .inr (.inl rfl) | exact .inr (.inr (.inl rfl)) | exact .inr (.inr (.inr rfl)) | cases hq
    · cases hs
  | makeMap t r => cases r <;> simp only [qkind] at hq <;> cases hq
  | _ => simp only [qkind] at hq; cases hq

/-! ### values that are the same -/
mutual
theorem veq_eq : ∀ {v w : Value}, veq v w = true → v = w
  | .bool a, w, h => by
    cases w <;> simp [veq] at h
    rw [h]
  | .int j a, w, h => by
    cases w <;> simp [veq, eqI_eq] at h
    rw [h.1, h.2]
  | .string ⟨⟨a⟩⟩, w, h => by
    cases w <;> simp only [veq] at h <;> try cases h
    rename_i s
    obtain ⟨⟨b⟩⟩ := s
    simp [veq] at h
    rw [h]
  | .pointer a, w, h => by
    cases w with
    | pointer b => cases a <;> cases b <;> simp [veq] at h <;> simp [h]
    | _ => cases a <;> simp [veq] at h
  | .slice a l c, w, h => by
    cases w with
    | slice b l' c' =>
      cases a <;> cases b <;> simp [veq] at h
      · rw [h.1, h.2]
      · rw [h.1.1, h.1.2, h.2]
    | _ => cases a <;> simp [veq] at h
  | .map a, w, h => by
    cases w with
    | map b =>
      cases a <;> cases b <;> simp [veq] at h
      · rfl
      · rw [h]
    | _ => cases a <;> simp [veq] at h
  | .func f ⟨a⟩ ⟨b⟩, w, h => by
    cases w with
    | func g a' b' =>
      obtain ⟨a'⟩ := a'; obtain ⟨b'⟩ := b'
      simp only [veq, Bool.and_eq_true, decide_eq_true_eq] at h
      rw [h.1.1, veqL_eq h.1.2, veqL_eq h.2]
    | _ => simp [veq] at h
  | .nilFunc, w, h => by cases w <;> simp [veq] at h; rfl
  | .iface t v, w, h => by
    cases w with
    | iface u x =>
      simp only [veq, Bool.and_eq_true] at h
      rw [Nat.eq_of_beq_eq_true h.1, veq_eq h.2]
    | _ => simp [veq] at h
  | .nilIface, w, h => by cases w <;> simp [veq] at h; rfl
  | .agg ⟨a⟩, w, h => by
    cases w with
    | agg b =>
      obtain ⟨b⟩ := b
      simp only [veq] at h
      rw [veqL_eq h]
    | _ => simp [veq] at h
  | .tuple ⟨a⟩, w, h => by
    cases w with
    | tuple b =>
      obtain ⟨b⟩ := b
      simp only [veq] at h
      rw [veqL_eq h]
    | _ => simp [veq] at h
  | .float .., w, h => by simp [veq] at h
  | .complex .., w, h => by simp [veq] at h
  | .chan .., w, h => by simp [veq] at h
theorem veqL_eq : ∀ {l m : List Value}, veqL l m = true → l = m
  | [], m, h => by cases m <;> simp [veqL] at h; rfl
  | v :: l, m, h => by
    cases m with
    | nil => simp [veqL] at h
    | cons w m =>
      simp only [veqL, Bool.and_eq_true] at h
      rw [veq_eq h.1, veqL_eq h.2]
end

theorem aoeq_eq {a b : AO} (h : aoeq a b = true) : a = b := by
  unfold aoeq at h
  split at h
  · simp only [Bool.and_eq_true, beq_iff_eq] at h
    rw [veqL_eq h.1.1, Nat.eq_of_beq_eq_true h.1.2, h.2]
  · rfl
  · cases h

end Go.Dx
