/- DxP: operations of the abstract run: the table of all operations that are not calls of functions. -/
import Derived.Test.YtcjmpdpgfmjcgaaGreatDoorDxO
namespace Go.Dx
variable {P : Program} {ι : Iota}

noncomputable def pMove (h : Heap) (e : Env) (x : Operand) : AR := match opv h e x with | some v => .ok v h | none => .no
noncomputable def pPick (h : Heap) (e : Env) (c a b : Operand) : AR :=
  match opv h e c with
  | some (.bool true) => pMove h e a
  | some (.bool false) => pMove h e b
  | _ => .no
noncomputable def pBox (h : Heap) (e : Env) (t : TypeId) (x : Operand) : AR := match opv h e x with | some v => abox t v h | none => .no
noncomputable def pBuild (P : Program) (h : Heap) (e : Env) (t : TypeId) (ps : Array (Nat × Operand)) : AR :=
  match opvs h e ps.toList with
  | some l => match abuild P t l with | some v => .ok v h | none => .no
  | none => .no
noncomputable def pBuildSlice (P : Program) (h : Heap) (e : Env) (t : TypeId) (n : Nat) (ps : Array (Nat × Operand)) : AR :=
  match opvs h e ps.toList with
  | some l => abuildSlice P t n l h
  | none => .no
noncomputable def pLoad (P : Program) (h : Heap) (e : Env) (t : TypeId) (x : Operand) : AR :=
  match opv h e x with
  | some p => match aload P t p h with | some v => .ok v h | none => .no
  | none => .no
noncomputable def pStore (P : Program) (h : Heap) (e : Env) (t : TypeId) (x y : Operand) : AR :=
  match opv h e x, opv h e y with
  | some p, some v => match astore P t p v h with | some h' => .ok (.tuple ⟨[]⟩) h' | none => .no
  | _, _ => .no
noncomputable def pNil (h : Heap) (e : Env) (x : Operand) : AR :=
  match opv h e x with
  | some (.pointer (some a)) => .ok (.pointer (some a)) h
  | _ => .no
noncomputable def pBin (P : Program) (o : Oper) (h : Heap) (e : Env) (op : BinOp) (t : TypeId) (x y : Operand) : AR :=
  match opv h e x, opv h e y with
  | some (.int .i64 a), some (.int .i64 b) => match iop op a b with | some v => .ok v h | none => aflat P o h e
  | some a, some b => match abinNil P op t a b with | some v => .ok v h | none => aflat P o h e
  | _, _ => .no
noncomputable def pUn (P : Program) (o : Oper) (h : Heap) (e : Env) (op : UnOp) (x : Operand) : AR :=
  match op, opv h e x with
  | .not, some (.bool b) => .ok (.bool (not b)) h
  | _, _ => aflat P o h e
noncomputable def pIface (P : Program) (h : Heap) (e : Env) (t : TypeId) (x : Operand) : AR :=
  match opv h e x with
  | some v => match amakeInterface P t v with | some r => .ok r h | none => .no
  | none => .no
noncomputable def pFunc (h : Heap) (e : Env) (fn : Fn) (first captured : Array Operand) : AR :=
  match fn, opvl h e first.toList, opvl h e captured.toList with
  | .func f, some a, some b => .ok (.func (.func f) ⟨a⟩ ⟨b⟩) h
  | _, _, _ => .no
noncomputable def pMap (h : Heap) (r : Option Operand) : AR :=
  match r with
  | none => .ok (.map (some h.nx)) (h.add (.map [] 0))
  | some _ => .no
noncomputable def pMake (P : Program) (h : Heap) (e : Env) (t : TypeId) (l c : Operand) : AR :=
  match opv h e l, opv h e c with
  | some l, some c => amakeSlice P t l c h
  | _, _ => .no
noncomputable def pSlice (P : Program) (o : Oper) (h : Heap) (e : Env) (t : TypeId) (x : Operand) (lo hi mx : Option Operand) : AR :=
  match opv h e x, opvo h e lo, opvo h e hi, opvo h e mx with
  | some v, some lo, some hi, some mx => match aslice P t v lo hi mx with | some r => .ok r h | none => aflat P o h e
  | _, _, _, _ => .no
noncomputable def pFieldAddr (P : Program) (h : Heap) (e : Env) (t : TypeId) (x : Operand) (f : Nat) : AR :=
  match opv h e x with
  | some p => match afieldAddr P t p f with | some v => .ok v h | none => .no
  | none => .no
noncomputable def pField (P : Program) (h : Heap) (e : Env) (t : TypeId) (x : Operand) (f : Nat) : AR :=
  match opv h e x with
  | some p => match afield P t p f with | some v => .ok v h | none => .no
  | none => .no
noncomputable def pIndexAddr (P : Program) (h : Heap) (e : Env) (t : TypeId) (x i : Operand) : AR :=
  match opv h e x, opv h e i with
  | some p, some i => match aindexAddr P t p i with | some v => .ok v h | none => .no
  | _, _ => .no
noncomputable def pIndex (P : Program) (h : Heap) (e : Env) (t : TypeId) (x i : Operand) : AR :=
  match opv h e x, opv h e i with
  | some p, some i => match aindex P t p i with | some v => .ok v h | none => .no
  | _, _ => .no
noncomputable def pLookup (P : Program) (h : Heap) (e : Env) (t : TypeId) (x k : Operand) (ok : Bool) : AR :=
  match opv h e x, opv h e k with
  | some m, some k => match alookup P t m k ok h with | some v => .ok v h | none => .no
  | _, _ => .no
noncomputable def pUpdate (P : Program) (h : Heap) (e : Env) (t : TypeId) (m k v : Operand) : AR :=
  match opv h e m, opv h e k, opv h e v with
  | some m, some k, some v => match amapUpdate P t m k v h with | some h' => .ok (.tuple ⟨[]⟩) h' | none => .no
  | _, _, _ => .no
noncomputable def pEntry (P : Program) (h : Heap) (e : Env) (t : TypeId) (m k : Operand) : AR :=
  match opv h e m, opv h e k with
  | some m, some k => amapEntry P t m k h
  | _, _ => .no
noncomputable def pEntryStore (h : Heap) (e : Env) (m s v : Operand) : AR :=
  match opv h e m, opv h e s, opv h e v with
  | some m, some s, some v => match aentryStore m s v h with | some h' => .ok (.tuple ⟨[]⟩) h' | none => .no
  | _, _, _ => .no
noncomputable def pAssert (P : Program) (h : Heap) (e : Env) (x : Operand) (asserted : TypeId) (ok : Bool) : AR :=
  match opv h e x with
  | some v => match atypeAssert P v asserted ok with | some r => .ok r h | none => .no
  | none => .no
noncomputable def pExtract (h : Heap) (e : Env) (x : Operand) (i : Nat) : AR :=
  match opv h e x with
  | some (.tuple ⟨l⟩) => match nth l i with | some v => .ok v h | none => .no
  | _ => .no
noncomputable def pCall (P : Program) (o : Oper) (h : Heap) (e : Env) (c : Call) : AR :=
  match c.callee with
  | .builtin b => abuiltin P o b c.args.toList c.argTypes.toList h e
  | _ => .no

noncomputable def aop (P : Program) (o : Oper) (h : Heap) (e : Env) : AR :=
  match o.op with
  | .move x => pMove h e x
  | .assign x => pMove h e x
  | .pick c a b => pPick h e c a b
  | .alloc t => aalloc P t h
  | .box t x => pBox h e t x
  | .build t ps => pBuild P h e t ps
  | .buildSlice t n ps => pBuildSlice P h e t n ps
  | .insert t m k v => pUpdate P h e t m k v
  | .load t x => pLoad P h e t x
  | .store t x y => pStore P h e t x y
  | .nilCheck x => pNil h e x
  | .binOp op t x y _ => pBin P o h e op t x y
  | .unOp op _ x => pUn P o h e op x
  | .convert _ _ _ => aflat P o h e
  | .makeInterface t x => pIface P h e t x
  | .makeFunc fn first captured => pFunc h e fn first captured
  | .makeMap _ r => pMap h r
  | .makeSlice t l c => pMake P h e t l c
  | .slice t x lo hi mx => pSlice P o h e t x lo hi mx
  | .fieldAddr t x f => pFieldAddr P h e t x f
  | .field t x f => pField P h e t x f
  | .indexAddr t x i => pIndexAddr P h e t x i
  | .index t x i => pIndex P h e t x i
  | .lookup t x k ok => pLookup P h e t x k ok
  | .mapUpdate t m k v => pUpdate P h e t m k v
  | .mapEntry t m k => pEntry P h e t m k
  | .entryStore _ m s v => pEntryStore h e m s v
  | .typeAssert x _ asserted ok => pAssert P h e x asserted ok
  | .extract x i => pExtract h e x i
  | .call c => pCall P o h e c
  | _ => .no

section
variable {h h' : Heap} {w : World} {e : Env} {a : Act}

theorem pMove_sound (hr : HR ι h w.heap) (he : EnvR ι e a.tmps) {x : Operand} {v : Value} (hs : pMove h e x = .ok v h') : h' = h ∧ VR ι v (a.eval x) := by
  unfold pMove at hs
  split at hs
  · rename_i v1 hv; cases hs; exact ⟨rfl, opv_sound hr he hv⟩
  · cases hs

set_option maxHeartbeats 800000 in
theorem aop_sound (hr : HR ι h w.heap) (he : EnvR ι e a.tmps) {o : Oper} {v : Value} (hs : aop P o h e = .ok v h') : OpS P ι h w (execOp a.eval o) v h' := by
  obtain ⟨dst, op, ty, pos, after, guard⟩ := o
  unfold aop at hs
  cases op with
  | move x => obtain ⟨rfl, hv⟩ := pMove_sound hr he hs; exact OpS.here hr rfl hv
  | assign x => obtain ⟨rfl, hv⟩ := pMove_sound hr he hs; exact OpS.here hr rfl hv
  | pick c x y =>
    simp only [pPick] at hs
    split at hs
    · rename_i hc
      obtain ⟨rfl, hv⟩ := pMove_sound hr he hs
      have := opv_sound hr he hc
      refine OpS.here (v' := a.eval x) hr ?_ hv
      generalize hz : a.eval c = z at this
      cases this
      simp [execOp, hz, asBool]
    · rename_i hc
      obtain ⟨rfl, hv⟩ := pMove_sound hr he hs
      have := opv_sound hr he hc
      refine OpS.here (v' := a.eval y) hr ?_ hv
      generalize hz : a.eval c = z at this
      cases this
      simp [execOp, hz, asBool]
    · cases hs
  | alloc t =>
    obtain ⟨ι', r', w', g1, g2, g3, g4⟩ := aalloc_sound (P := P) hr hs
    exact ⟨ι', r', w', .inl (by simp only [execOp, Sem.run_bind, g1, Result.andThen_ok, Sem.run_pure]), g2, g3, g4⟩
  | box t x =>
    simp only [pBox] at hs
    split at hs
    · rename_i v1 hv
      obtain ⟨ι', r', g1, g2, g3, g4⟩ := abox_sound (P := P) hr (opv_sound hr he hv) hs
      exact ⟨ι', r', { w with heap := w.heap.push (.cells (a.eval x).cells t) }, .inl (by simp only [execOp, Sem.run_bind, g1, Result.andThen_ok, Sem.run_pure]), g2, g3, g4⟩
    · cases hs
  | build t ps =>
    simp only [pBuild] at hs
    split at hs
    · rename_i l hl
      split at hs
      · rename_i r hb
        simp only [AR.ok.injEq] at hs
        obtain ⟨rfl, rfl⟩ := hs
        obtain ⟨v', g1, g2⟩ := abuild_sound (P := P) (ps' := ps.map fun p => (p.1, a.eval p.2)) (by simpa using opvs_sound hr he hl) hb w
        exact OpS.here hr (by simp only [execOp, Sem.run_bind, g1, Result.andThen_ok, Sem.run_pure]) g2
      · cases hs
    · cases hs
  | buildSlice t n ps =>
    simp only [pBuildSlice] at hs
    split at hs
    · rename_i l hl
      obtain ⟨ι', v', w', g1, g2, g3, g4⟩ := abuildSlice_sound (P := P) hr (ps' := ps.map fun p => (p.1, a.eval p.2)) (by simpa using opvs_sound hr he hl) hs
      exact ⟨ι', v', w', .inl (by simp only [execOp, Sem.run_bind, g1, Result.andThen_ok, Sem.run_pure]), g2, g3, g4⟩
    · cases hs
  | insert t m k x =>
    simp only [pUpdate] at hs
    split at hs
    · rename_i m1 k1 x1 hm hk hx
      split at hs
      · rename_i h1 hu
        simp only [AR.ok.injEq] at hs
        obtain ⟨rfl, rfl⟩ := hs
        obtain ⟨w', g1, g2, g3⟩ := amapUpdate_sound (P := P) hr (opv_sound hr he hm) (opv_sound hr he hk) (opv_sound hr he hx) hu
        exact ⟨ι, undef, w', .inr ⟨by simp only [execOp, Sem.run_bind, g1, Result.andThen_ok, Sem.run_pure], rfl⟩, .tup .nil, g2, g3⟩
      · cases hs
    · cases hs
  | load t x =>
    simp only [pLoad] at hs
    split at hs
    · rename_i p hp
      split at hs
      · rename_i r hl
        simp only [AR.ok.injEq] at hs
        obtain ⟨rfl, rfl⟩ := hs
        obtain ⟨v', g1, g2⟩ := aload_sound (P := P) hr (opv_sound hr he hp) hl
        exact OpS.here hr (by simp only [execOp, Sem.run_bind, g1, Result.andThen_ok, Sem.run_pure]) g2
      · cases hs
    · cases hs
  | store t x y =>
    simp only [pStore] at hs
    split at hs
    · rename_i p v1 hp hv
      split at hs
      · rename_i h1 hl
        simp only [AR.ok.injEq] at hs
        obtain ⟨rfl, rfl⟩ := hs
        obtain ⟨w', g1, g2, g3⟩ := astore_sound (P := P) hr (opv_sound hr he hp) (opv_sound hr he hv) hl
        exact ⟨ι, undef, w', .inr ⟨by simp only [execOp, Sem.run_bind, g1, Result.andThen_ok, Sem.run_pure], rfl⟩, .tup .nil, g2, g3⟩
      · cases hs
    · cases hs
  | nilCheck x =>
    simp only [pNil] at hs
    split at hs
    · rename_i ad hx
      simp only [AR.ok.injEq] at hs
      obtain ⟨rfl, rfl⟩ := hs
      have hv := opv_sound hr he hx
      refine OpS.here (v' := a.eval x) hr ?_ hv
      generalize hz : a.eval x = z at hv
      cases hv
      simp [execOp, hz]
    · cases hs
  | binOp op t x y ty2 =>
    simp only [pBin] at hs
    split at hs
    · rename_i m n hx hy
      split at hs
      · rename_i r hi
        simp only [AR.ok.injEq] at hs
        obtain ⟨rfl, rfl⟩ := hs
        have hvx := (opv_sound hr he hx).flat_eq rfl
        have hvy := (opv_sound hr he hy).flat_eq rfl
        have hfl : flat r = true := by
          unfold iop at hi
          split at hi <;> first | (cases hi; rfl) | (split at hi <;> cases hi; rfl) | cases hi
        refine OpS.here hr ?_ (VR.of_flat ι hfl)
        have := iop_sound (P := P) hi t x y w
        simp only [Sem.run_bind] at this
        simp only [execOp, Sem.run_bind, hvx, hvy, this, Result.andThen_ok, Sem.run_pure]
      · exact aflat_sound hr he hs
    · rename_i a1 b1 _ hx hy
      split at hs
      · rename_i r hi
        simp only [AR.ok.injEq] at hs
        obtain ⟨rfl, rfl⟩ := hs
        have hfl : flat r = true := by
          unfold abinNil at hi
          split at hi
          · split at hi
            · split at hi <;> cases hi <;> rfl
            · cases hi
          · cases hi
        have := abinNil_sound (P := P) (opv_sound hr he hx) (opv_sound hr he hy) hi x y w
        refine OpS.here hr ?_ (VR.of_flat ι hfl)
        simp only [Sem.run_bind] at this
        simp only [execOp, Sem.run_bind, this, Result.andThen_ok, Sem.run_pure]
      · exact aflat_sound hr he hs
    · cases hs
  | unOp op t x =>
    simp only [pUn] at hs
    split at hs
    · rename_i b hx
      simp only [AR.ok.injEq] at hs
      obtain ⟨rfl, rfl⟩ := hs
      have hvx := (opv_sound hr he hx).flat_eq rfl
      refine OpS.here hr ?_ (.bool _)
      simp [execOp, hvx, Op.unary]
    · exact aflat_sound hr he hs
  | convert s d x => exact aflat_sound hr he hs
  | makeInterface t x =>
    simp only [pIface] at hs
    split at hs
    · rename_i v1 hv
      split at hs
      · rename_i r hi
        simp only [AR.ok.injEq] at hs
        obtain ⟨rfl, rfl⟩ := hs
        obtain ⟨v', g1, g2⟩ := amakeInterface_sound (P := P) (opv_sound hr he hv) hi w
        exact OpS.here hr (by simp only [execOp, Sem.run_bind, g1, Result.andThen_ok, Sem.run_pure]) g2
      · cases hs
    · cases hs
  | makeFunc fn first captured =>
    simp only [pFunc] at hs
    split at hs
    · rename_i f l1 l2 h1 h2
      simp only [AR.ok.injEq] at hs
      obtain ⟨rfl, rfl⟩ := hs
      refine OpS.here hr ?_ (.fn f (a' := first.map a.eval) (b' := captured.map a.eval) (by simpa using opvl_sound hr he h1) (by simpa using opvl_sound hr he h2))
      simp only [execOp, Instr.makeFunc, Sem.run_bind, Result.andThen_ok, Sem.run_pure]
    · cases hs
  | makeMap t r =>
    simp only [pMap] at hs
    split at hs
    · · simp only [AR.ok.injEq] at hs
        obtain ⟨rfl, rfl⟩ := hs
        let bi : BI := ⟨w.heap.size, 0, 0⟩
        have := hr.add (o := .map [] 0) (o' := .map #[] 0) (bi := bi) rfl (by simp only [OR]; exact ⟨trivial, .nil⟩)
        refine ⟨_, .map (some w.heap.size), { w with heap := w.heap.push (.map #[] 0) }, .inl ?_, ?_, this.1, this.2⟩
        · simp [execOp, Instr.makeMap]
        · have h1 : upd ι h.nx bi h.nx = some bi := upd_same _ _ _
          exact VR.map h1
    · cases hs
  | makeSlice t l c =>
    simp only [pMake] at hs
    split at hs
    · rename_i l1 c1 hl hc
      obtain ⟨ι', v', w', g1, g2, g3, g4⟩ := amakeSlice_sound (P := P) hr (opv_sound hr he hl) (opv_sound hr he hc) hs
      exact ⟨ι', v', w', .inl (by simp only [execOp, Sem.run_bind, g1, Result.andThen_ok, Sem.run_pure]), g2, g3, g4⟩
    · cases hs
  | slice t x lo hi mx =>
    simp only [pSlice] at hs
    split at hs
    · rename_i v1 lo1 hi1 mx1 hv hlo hhi hmx
      split at hs
      · rename_i r hsl
        simp only [AR.ok.injEq] at hs
        obtain ⟨rfl, rfl⟩ := hs
        obtain ⟨v', g1, g2⟩ := aslice_sound (P := P) (opv_sound hr he hv) (opvo_sound hr he hlo) (opvo_sound hr he hhi) (opvo_sound hr he hmx) hsl w
        exact OpS.here hr (by simp only [execOp, Sem.run_bind, g1, Result.andThen_ok, Sem.run_pure]) g2
      · exact aflat_sound hr he hs
    · cases hs
  | fieldAddr t x f =>
    simp only [pFieldAddr] at hs
    split at hs
    · rename_i p hp
      split at hs
      · rename_i r hl
        simp only [AR.ok.injEq] at hs
        obtain ⟨rfl, rfl⟩ := hs
        obtain ⟨v', g1, g2⟩ := afieldAddr_sound (P := P) (opv_sound hr he hp) hl w
        exact OpS.here hr (by simp only [execOp, Sem.run_bind, g1, Result.andThen_ok, Sem.run_pure]) g2
      · cases hs
    · cases hs
  | field t x f =>
    simp only [pField] at hs
    split at hs
    · rename_i p hp
      split at hs
      · rename_i r hl
        simp only [AR.ok.injEq] at hs
        obtain ⟨rfl, rfl⟩ := hs
        obtain ⟨v', g1, g2⟩ := afield_sound (P := P) (opv_sound hr he hp) hl w
        exact OpS.here hr (by simp only [execOp, Sem.run_bind, g1, Result.andThen_ok, Sem.run_pure]) g2
      · cases hs
    · cases hs
  | indexAddr t x i =>
    simp only [pIndexAddr] at hs
    split at hs
    · rename_i p i1 hp hi
      split at hs
      · rename_i r hl
        simp only [AR.ok.injEq] at hs
        obtain ⟨rfl, rfl⟩ := hs
        obtain ⟨v', g1, g2⟩ := aindexAddr_sound (P := P) (opv_sound hr he hp) (opv_sound hr he hi) hl w
        exact OpS.here hr (by simp only [execOp, Sem.run_bind, g1, Result.andThen_ok, Sem.run_pure]) g2
      · cases hs
    · cases hs
  | index t x i =>
    simp only [pIndex] at hs
    split at hs
    · rename_i p i1 hp hi
      split at hs
      · rename_i r hl
        simp only [AR.ok.injEq] at hs
        obtain ⟨rfl, rfl⟩ := hs
        obtain ⟨v', g1, g2⟩ := aindex_sound (P := P) (opv_sound hr he hp) (opv_sound hr he hi) hl w
        exact OpS.here hr (by simp only [execOp, Sem.run_bind, g1, Result.andThen_ok, Sem.run_pure]) g2
      · cases hs
    · cases hs
  | lookup t x k ok =>
    simp only [pLookup] at hs
    split at hs
    · rename_i m1 k1 hm hk
      split at hs
      · rename_i r hl
        simp only [AR.ok.injEq] at hs
        obtain ⟨rfl, rfl⟩ := hs
        obtain ⟨v', g1, g2⟩ := alookup_sound (P := P) hr (opv_sound hr he hm) (opv_sound hr he hk) hl
        exact OpS.here hr (by simp only [execOp, Sem.run_bind, g1, Result.andThen_ok, Sem.run_pure]) g2
      · cases hs
    · cases hs
  | mapUpdate t m k x =>
    simp only [pUpdate] at hs
    split at hs
    · rename_i m1 k1 x1 hm hk hx
      split at hs
      · rename_i h1 hu
        simp only [AR.ok.injEq] at hs
        obtain ⟨rfl, rfl⟩ := hs
        obtain ⟨w', g1, g2, g3⟩ := amapUpdate_sound (P := P) hr (opv_sound hr he hm) (opv_sound hr he hk) (opv_sound hr he hx) hu
        exact ⟨ι, undef, w', .inr ⟨by simp only [execOp, Sem.run_bind, g1, Result.andThen_ok, Sem.run_pure], rfl⟩, .tup .nil, g2, g3⟩
      · cases hs
    · cases hs
  | mapEntry t m k =>
    simp only [pEntry] at hs
    split at hs
    · rename_i m1 k1 hm hk
      obtain ⟨v', w', g1, g2, g3, g4⟩ := amapEntry_sound (P := P) hr (opv_sound hr he hm) (opv_sound hr he hk) hs
      exact ⟨ι, v', w', .inl (by simp only [execOp, Sem.run_bind, g1, Result.andThen_ok, Sem.run_pure]), g2, g3, g4⟩
    · cases hs
  | entryStore t m s x =>
    simp only [pEntryStore] at hs
    split at hs
    · rename_i m1 s1 x1 hm hs1 hx
      split at hs
      · rename_i h1 hu
        simp only [AR.ok.injEq] at hs
        obtain ⟨rfl, rfl⟩ := hs
        obtain ⟨w', g1, g2, g3⟩ := aentryStore_sound (P := P) (t := t) hr (opv_sound hr he hm) (opv_sound hr he hs1) (opv_sound hr he hx) hu
        exact ⟨ι, undef, w', .inr ⟨by simp only [execOp, Sem.run_bind, g1, Result.andThen_ok, Sem.run_pure], rfl⟩, .tup .nil, g2, g3⟩
      · cases hs
    · cases hs
  | typeAssert x t asserted ok =>
    simp only [pAssert] at hs
    split at hs
    · rename_i v1 hv
      split at hs
      · rename_i r hi
        simp only [AR.ok.injEq] at hs
        obtain ⟨rfl, rfl⟩ := hs
        obtain ⟨v', g1, g2⟩ := atypeAssert_sound (P := P) (xType := t) (opv_sound hr he hv) hi w
        exact OpS.here hr (by simp only [execOp, Sem.run_bind, g1, Result.andThen_ok, Sem.run_pure]) g2
      · cases hs
    · cases hs
  | extract x i =>
    simp only [pExtract] at hs
    split at hs
    · rename_i l hx
      split at hs
      · rename_i r hl
        simp only [AR.ok.injEq] at hs
        obtain ⟨rfl, rfl⟩ := hs
        rw [nth_eq] at hl
        have hv := opv_sound hr he hx
        generalize hz : a.eval x = z at hv
        cases hv with
        | tup hl2 =>
          obtain ⟨v', g1, g2⟩ := hl2.get i _ hl
          refine OpS.here (v' := v') hr ?_ g2
          have g1' : ∀ (arr : Array Value), arr.toList[i]? = some v' → arr[i]? = some v' := fun arr h => by simpa using h
          simp only [execOp, hz, Instr.extract, g1' _ g1, Sem.run_bind, Sem.run_pure, Result.andThen_ok]
      · cases hs
    · cases hs
  | call c =>
    simp only [pCall] at hs
    split at hs
    · rename_i b hc
      exact abuiltin_sound hr he rfl hc hs
    · cases hs
  | _ => cases hs
end

end Go.Dx
