/- DyD: the evaluator, staged: what depends on the program's text alone is a closed term, so that the kernel reduces it once. -/
import Derived.Test.YtcjmpdpgfmjcgaaGreatDoorDyC
namespace Go.Dx
variable (P : Program) (V : Nat → Nat → Bool)

structure OClo where
  run : Heap → Env → Option Value
noncomputable def opvC (x : Operand) : OClo :=
  match x with
  | .tmp t => ⟨fun _ e => lk t e⟩
  | .const v => match flat v with
    | true => ⟨fun _ _ => some v⟩
    | false => ⟨fun _ _ => none⟩
  | .global g => ⟨fun h _ => @Bool.casesOn (fun _ => Option Value) (Nat.blt g h.gl) none (@Option.casesOn AO (fun _ => Option Value) (h.get g) none (fun _ => some (.pointer (some ⟨g, 0, none⟩))))⟩
  | .func f => ⟨fun _ _ => some (.func (.func f) #[] #[])⟩
theorem opvC_eq (x : Operand) (h : Heap) (e : Env) : (opvC x).run h e = opv h e x := by
  cases x with
  | const v => show (match flat v with | true => (⟨fun _ _ => some v⟩ : OClo) | false => ⟨fun _ _ => none⟩).run h e = @Bool.casesOn (fun _ => Option Value) (flat v) none (some v); cases flat v <;> rfl
  | _ => rfl

/-! ### operations -/
structure AClo where
  run : Heap → Env → AR

noncomputable def ar1 (r : Option Value) (h : Heap) : AR := @Option.rec Value (fun _ => AR) .no (fun v => .ok v h) r
theorem ar1_eq (h : Heap) (e : Env) (x : Operand) : ar1 ((opvC x).run h e) h = pMove h e x := by
  rw [opvC_eq]; unfold pMove; cases opv h e x <;> rfl

noncomputable def aopC (o : Oper) : AClo :=
  match o.op with
  | .move x => ⟨fun h e => ar1 ((opvC x).run h e) h⟩
  | .assign x => ⟨fun h e => ar1 ((opvC x).run h e) h⟩
  | .pick c a b => ⟨fun h e => pPick h e c a b⟩
  | .alloc t => ⟨fun h _ => aalloc P t h⟩
  | .box t x => ⟨fun h e => pBox h e t x⟩
  | .build t ps => ⟨fun h e => pBuild P h e t ps⟩
  | .buildSlice t n ps => ⟨fun h e => pBuildSlice P h e t n ps⟩
  | .insert t m k v => ⟨fun h e => pUpdate P h e t m k v⟩
  | .load t x => ⟨fun h e => pLoad P h e t x⟩
  | .store t x y => ⟨fun h e => pStore P h e t x y⟩
  | .nilCheck x => ⟨fun h e => pNil h e x⟩
  | .binOp op t x y _ => ⟨fun h e => pBin P o h e op t x y⟩
  | .unOp op _ x => ⟨fun h e => pUn P o h e op x⟩
  | .convert _ _ _ => ⟨fun h e => aflat P o h e⟩
  | .makeInterface t x => ⟨fun h e => pIface P h e t x⟩
  | .makeFunc fn first captured => ⟨fun h e => pFunc h e fn first captured⟩
  | .makeMap _ r => ⟨fun h _ => pMap h r⟩
  | .makeSlice t l c => ⟨fun h e => pMake P h e t l c⟩
  | .slice t x lo hi mx => ⟨fun h e => pSlice P o h e t x lo hi mx⟩
  | .fieldAddr t x f => ⟨fun h e => pFieldAddr P h e t x f⟩
  | .field t x f => ⟨fun h e => pField P h e t x f⟩
  | .indexAddr t x i => ⟨fun h e => pIndexAddr P h e t x i⟩
  | .index t x i => ⟨fun h e => pIndex P h e t x i⟩
  | .lookup t x k ok => ⟨fun h e => pLookup P h e t x k ok⟩
  | .mapUpdate t m k v => ⟨fun h e => pUpdate P h e t m k v⟩
  | .mapEntry t m k => ⟨fun h e => pEntry P h e t m k⟩
  | .entryStore _ m s v => ⟨fun h e => pEntryStore h e m s v⟩
  | .typeAssert x _ asserted ok => ⟨fun h e => pAssert P h e x asserted ok⟩
  | .extract x i => ⟨fun h e => pExtract h e x i⟩
  | .call c => ⟨fun h e => pCall P o h e c⟩
  | _ => ⟨fun _ _ => .no⟩
theorem aopC_eq (o : Oper) (h : Heap) (e : Env) : (aopC P o).run h e = aop P o h e := by
  obtain ⟨dst, op, ty, pos, after, guard⟩ := o
  unfold aopC aop
  cases op <;> first | rfl | exact ar1_eq _ _ _

/-! ### an operation in its place -/
structure XClo where
  run : Ev → Fr → Env → List ADef → Heap → CR

structure PClo where
  run : Fr → Value → Env → List ADef → Heap → CR
noncomputable def finC (o : Oper) : PClo :=
  match o.dst with
  | none => ⟨fun _ _ e ds h => .ok .normal e ds h⟩
  | some d => ⟨fun fr v e ds h => @Bool.casesOn (fun _ => CR) (Nat.blt d fr.nt) .no (.ok .normal (putE V fr.fn d v e) ds h)⟩
theorem finC_eq (o : Oper) (fr : Fr) (v : Value) (e : Env) (ds : List ADef) (h : Heap) : (finC V o).run fr v e ds h = fin V fr o v e ds h := by
  obtain ⟨dst, op, ty, pos, after, guard⟩ := o
  cases dst with
  | none => rfl
  | some d =>
    show @Bool.casesOn (fun _ => CR) (Nat.blt d fr.nt) .no (.ok .normal (putE V fr.fn d v e) ds h) =
      match (@Bool.casesOn (fun _ => Option Env) (Nat.blt d fr.nt) none (some (putE V fr.fn d v e))) with
      | some e' => CR.ok .normal e' ds h
      | none => .no
    cases Nat.blt d fr.nt <;> rfl

noncomputable def arF (r : AR) (k : Value → Heap → CR) : CR := @AR.rec (fun _ => CR) k .no r
noncomputable def vsF (r : VS) (k : Value → Heap → CR) (p : Value → Heap → CR) : CR := @VS.rec (fun _ => CR) k p .no r

noncomputable def callC (o : Oper) (c : Call) : XClo :=
  match isBuiltin c.callee with
  | true => ⟨fun _ fr e ds h => arF ((aopC P o).run h e) fun v h => (finC V o).run fr v e ds h⟩
  | false => ⟨fun ev fr e ds h =>
    @Tgt.rec (fun _ => CR) (fun g args => vsF (ev.call g args h) (fun v h => (finC V o).run fr v e ds h) (fun v h => .ok (.pan v) e ds h))
      (fun l args => vsF (evYield V ev l args h) (fun v h => (finC V o).run fr v e ds h) (fun v h => .ok (.pan v) e ds h))
      (arF (aflat P o h e) fun v h => (finC V o).run fr v e ds h) (callOf P h e c)⟩
noncomputable def doC (o : Oper) : XClo :=
  match o.op with
  | .call c => callC P V o c
  | .defer c => ⟨fun _ fr e ds h => evDefer P V fr o c e ds h⟩
  | .panic x => ⟨fun _ _ e ds h => evPanic x e ds h⟩
  | _ => ⟨fun _ fr e ds h => arF ((aopC P o).run h e) fun v h => (finC V o).run fr v e ds h⟩

theorem arF_eq (o : Oper) (fr : Fr) (e : Env) (ds : List ADef) (r : AR) : arF r (fun v h => (finC V o).run fr v e ds h) = finA V fr o r e ds := by
  cases r with
  | ok v h => exact finC_eq V o fr v e ds h
  | no => rfl
theorem vsF_eq (o : Oper) (fr : Fr) (e : Env) (ds : List ADef) (r : VS) : vsF r (fun v h => (finC V o).run fr v e ds h) (fun v h => .ok (.pan v) e ds h) = finV V fr o r e ds := by
  cases r with
  | ret v h => exact finC_eq V o fr v e ds h
  | pan v h => rfl
  | no => rfl
theorem callC_eq (ev : Ev) (fr : Fr) (o : Oper) (c : Call) (e : Env) (ds : List ADef) (h : Heap) : (callC P V o c).run ev fr e ds h = evCallOp P V ev fr o c e ds h := by
  unfold callC evCallOp
  cases isBuiltin c.callee with
  | true => exact (arF_eq V o fr e ds _).trans (by rw [aopC_eq])
  | false =>
    simp only
    cases callOf P h e c with
    | fn g args => exact vsF_eq V o fr e ds _
    | yield l args => exact vsF_eq V o fr e ds _
    | no => exact arF_eq V o fr e ds _
theorem doC_eq (ev : Ev) (fr : Fr) (o : Oper) (e : Env) (ds : List ADef) (h : Heap) : (doC P V o).run ev fr e ds h = evDo P V ev fr o e ds h := by
  have h0 : arF ((aopC P o).run h e) (fun v h => (finC V o).run fr v e ds h) = finA V fr o (aop P o h e) e ds := (arF_eq V o fr e ds _).trans (by rw [aopC_eq])
  unfold doC evDo
  cases hop : o.op <;> first | exact h0 | exact callC_eq P V ev fr o _ e ds h | rfl

noncomputable def opC (ops : List Oper) (o : Oper) : XClo :=
  match o.guard with
  | none => doC P V o
  | some _ => ⟨fun ev fr e ds h => @Option.rec Bool (fun _ => CR) .no (fun b => @Bool.rec (fun _ => CR) ((finC V o).run fr (.tuple ⟨[]⟩) e ds h) ((doC P V o).run ev fr e ds h) b) (gd ops o e)⟩
theorem opC_eq (ev : Ev) (fr : Fr) (ops : List Oper) (o : Oper) (e : Env) (ds : List ADef) (h : Heap) : (opC P V ops o).run ev fr e ds h = evOp P V ev fr ops o e ds h := by
  unfold opC evOp
  cases hg : o.guard with
  | none =>
    have : gd ops o e = some true := by unfold gd; rw [hg]
    rw [this]
    exact doC_eq P V ev fr o e ds h
  | some p =>
    simp only
    cases gd ops o e with
    | none => rfl
    | some b =>
      cases b
      · exact finC_eq V o fr _ e ds h
      · exact doC_eq P V ev fr o e ds h

/-- On, if it went on. -/
noncomputable def crF (r : CR) (k : Env → List ADef → Heap → CR) : CR :=
  @CR.rec (fun _ => CR) (fun x e ds h => @AExit.rec (fun _ => CR) (k e ds h) (fun i => .ok (.exit i) e ds h) (fun l => .ok (.goto l) e ds h) (.ok .ret e ds h) (fun v => .ok (.pan v) e ds h) x) .no r
theorem crF_eq (r : CR) (k : Env → List ADef → Heap → CR) : crF r k = match r with | .ok .normal e ds h => k e ds h | r => r := by
  cases r with
  | ok x e ds h => cases x <;> rfl
  | no => rfl

noncomputable def opsC (ops : List Oper) (l : List Oper) : XClo :=
  match l with
  | [] => ⟨fun _ _ e ds h => .ok .normal e ds h⟩
  | o :: l => ⟨fun ev fr e ds h => crF ((opC P V ops o).run ev fr e ds h) fun e ds h => (opsC ops l).run ev fr e ds h⟩
theorem opsC_eq (ev : Ev) (fr : Fr) (ops : List Oper) (l : List Oper) : ∀ (e : Env) (ds : List ADef) (h : Heap), (opsC P V ops l).run ev fr e ds h = evOps P V ev fr ops l e ds h := by
  induction l with
  | nil => intro e ds h; rfl
  | cons o l ih =>
    intro e ds h
    rw [evOps_cons]
    unfold opsC
    simp only [crF_eq, opC_eq, ih]
    rfl

noncomputable def condF (v : Option Value) (x y : CR) : CR :=
  match v with
  | some (.bool true) => x
  | some (.bool false) => y
  | _ => .no
noncomputable def blockF (id : Nat) (r : CR) : CR :=
  match r with
  | .ok (.exit j) e ds h => @Bool.casesOn (fun _ => CR) (Nat.beq j id) (.ok (.exit j) e ds h) (.ok .normal e ds h)
  | r => r
noncomputable def codeC (c : Code) : XClo :=
  match c with
  | .skip => ⟨fun _ _ e ds h => .ok .normal e ds h⟩
  | .label _ => ⟨fun _ _ e ds h => .ok .normal e ds h⟩
  | .region _ ops false => ⟨fun ev fr e ds h => (opsC P V ops.toList ops.toList).run ev fr ⟨[], e.va⟩ ds h⟩
  | .region _ ops true => ⟨fun ev fr e ds h => @Bool.casesOn (fun _ => CR) (drawOk ops) .no (evDraw P V ev fr ops (phases (ixs ops.toList)) [] ⟨[], e.va⟩ ds h)⟩
  | .seq a b => ⟨fun ev fr e ds h => crF (ev.code fr a e ds h) fun e ds h => ev.code fr b e ds h⟩
  | .cond c x y => ⟨fun ev fr e ds h => condF ((opvC c).run h e) (ev.code fr x e ds h) (ev.code fr y e ds h)⟩
  | .block id b => ⟨fun ev fr e ds h => blockF id (ev.code fr b e ds h)⟩
  | .loop b => ⟨fun ev fr e ds h => evLoop ev fr b ev.n e ds h⟩
  | .rangeFunc f ps as b => ⟨fun ev fr e ds h => evRange P ev fr f ps as b e ds h⟩
  | .exit id => ⟨fun _ _ e ds h => .ok (.exit id) e ds h⟩
  | .goto l => ⟨fun _ _ e ds h => .ok (.goto l) e ds h⟩
  | .ret => ⟨fun _ _ e ds h => .ok .ret e ds h⟩
  | _ => ⟨fun _ _ _ _ _ => .no⟩
theorem codeC_eq (ev : Ev) (fr : Fr) (c : Code) (e : Env) (ds : List ADef) (h : Heap) : (codeC P V c).run ev fr e ds h = evCode P V ev fr c e ds h := by
  cases c with
  | region i ops d =>
    cases d with
    | false => exact opsC_eq P V ev fr _ _ _ _ _
    | true => rfl
  | seq a b => exact crF_eq _ _
  | cond c x y =>
    show condF ((opvC c).run h e) (ev.code fr x e ds h) (ev.code fr y e ds h) = _
    rw [opvC_eq]; rfl
  | _ => rfl

noncomputable def evF (n : Nat) : Ev := @Nat.rec (fun _ => Ev) ⟨fun _ _ _ _ _ => .no, fun _ _ _ => .no, 0⟩ (fun n ih => ⟨fun fr c => (codeC P V c).run ih fr, evCall P V ih, n⟩) n
theorem evF_eq (n : Nat) : evF P V n = ev P V n := by
  induction n with
  | zero => rfl
  | succ n ih =>
    show (⟨fun fr c => (codeC P V c).run (evF P V n) fr, evCall P V (evF P V n), n⟩ : Ev) = ⟨evCode P V (ev P V n), evCall P V (ev P V n), n⟩
    rw [ih]
    congr 1
    funext fr c e ds h
    exact codeC_eq P V _ fr c e ds h

end Go.Dx
