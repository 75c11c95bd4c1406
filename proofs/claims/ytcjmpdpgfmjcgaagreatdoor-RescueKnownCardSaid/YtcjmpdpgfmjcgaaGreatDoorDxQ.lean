/- DxQ: the abstract run: regions, code, calls, deferred calls, ranges over functions. -/
import Derived.Test.YtcjmpdpgfmjcgaaGreatDoorDxP
namespace Go.Dx
variable (P : Program) (V : Nat → Nat → Bool)

inductive AExit where
  | normal
  | exit (id : Nat)
  | goto (l : Nat)
  | ret
  | pan (v : Value)

inductive ADef where
  | coll (r : Nat)
  | fn (f : FuncId) (args cap : List Value)

/-- What is fixed for a frame: its function, the number of its slots, the loop whose round it is. -/
structure Fr where
  fn : FuncId
  nt : Nat
  rd : Option Nat

inductive CR where
  | ok (x : AExit) (e : Env) (ds : List ADef) (h : Heap)
  | no

inductive VS where
  | ret (v : Value) (h : Heap)
  | pan (v : Value) (h : Heap)
  | no

structure Ev where
  code : Fr → Code → Env → List ADef → Heap → CR
  call : FuncId → List Value → Heap → VS
  n : Nat

/-! ### slots: 'V' says of each function which ones are kept from region to region -/
noncomputable def setL (d : Nat) (v : Value) (l : List (Nat × Value)) : List (Nat × Value) :=
  @List.rec (Nat × Value) (fun _ => List (Nat × Value)) [(d, v)] (fun p l ih => @Bool.casesOn (fun _ => List (Nat × Value)) (Nat.beq p.1 d) (p :: ih) ((d, v) :: l)) l
noncomputable def putE (fn : FuncId) (d : Nat) (v : Value) (e : Env) : Env :=
  @Bool.casesOn (fun _ => Env) (V fn d) ⟨(d, v) :: e.te, e.va⟩ ⟨e.te, setL d v e.va⟩
noncomputable def put (fr : Fr) (o : Oper) (v : Value) (e : Env) : Option Env :=
  match o.dst with
  | none => some e
  | some d => @Bool.casesOn (fun _ => Option Env) (Nat.blt d fr.nt) none (some (putE V fr.fn d v e))

/-- Whether an operation is wanted. -/
noncomputable def gd (ops : List Oper) (o : Oper) (e : Env) : Option Bool :=
  match o.guard with
  | none => some true
  | some (j, want) =>
    match nth ops j with
    | some oj => match oj.dst with
      | some d => match lk d e with
        | some (.bool b) => some (b == want)
        | some _ => some false
        | none => none
      | none => some false
    | none => some false

/-! ### calls -/
noncomputable def bodied (g : FuncId) : Bool :=
  match P.funcs[g]? with
  | some fn => fn.body.isSome && !(fn.name == "runtime.NumGoroutine")
  | none => false

inductive Tgt where
  | fn (g : FuncId) (args : List Value)
  | yield (l : Nat) (args : List Value)
  | no

noncomputable def callOf (h : Heap) (e : Env) (c : Call) : Tgt :=
  match c.callee with
  | .value f =>
    match opv h e f, opvl h e c.args.toList with
    | some (.func (.func g) ⟨first⟩ ⟨cap⟩), some args => @Bool.casesOn (fun _ => Tgt) (bodied P g) .no (.fn g (first ++ (args ++ cap)))
    | some (.func (.yield l) ⟨[]⟩ ⟨[]⟩), some args => .yield l args
    | _, _ => .no
  | _ => .no

def isBuiltin : Callee → Bool
  | .builtin _ => true
  | _ => false

noncomputable def zipP (fr : Fr) : List Tmp → List Value → Env → Option Env
  | [], [], e => some e
  | p :: ps, a :: as, e => @Bool.casesOn (fun _ => Option Env) (Nat.blt p fr.nt) none (zipP fr ps as (putE V fr.fn p a e))
  | _, _, _ => none

def jumpOf : AExit → Option (Option Code)
  | .normal => some none
  | .ret => some (some .ret)
  | .exit id => some (some (.exit id))
  | .goto l => some (some (.goto l))
  | .pan _ => none

/-- A round of a loop over a function: 'yield' is called. -/
noncomputable def eiOk (fn : FuncId) (e : Env) : Bool := e.te.isEmpty && e.va.all fun p => V fn p.1

noncomputable def evYield (ev : Ev) (l : Nat) (args : List Value) (h : Heap) : VS :=
  match h.get l with
  | some (.loop .ready pend fn nt env params assign body defers) =>
    match (@Bool.casesOn (fun _ => Option Env) (eiOk V fn env) none (zipP V ⟨fn, nt, some l⟩ params.toList args env)) with
    | some e0 =>
      match ev.code ⟨fn, nt, some l⟩ assign e0 [] h with
      | .ok .normal e1 [] h1 =>
        match h1.get l with
        | some (.loop .ready pend1 fn1 nt1 env1 params1 assign1 body1 defers1) =>
          match ev.code ⟨fn, nt, some l⟩ body e1 [] (h1.set l (.loop .busy pend1 fn1 nt1 env1 params1 assign1 body1 defers1)) with
          | .ok x _ _ h2 =>
            match jumpOf x, h2.get l with
            | some j, some (.loop _ _ fn2 nt2 env2 params2 assign2 body2 defers2) =>
              .ret (.bool j.isNone) (h2.set l (.loop (if j.isNone then .ready else .done) j fn2 nt2 env2 params2 assign2 body2 defers2))
            | _, _ => .no
          | .no => .no
        | _ => .no
      | _ => .no
    | none => .no
  | _ => .no

/-! ### an operation in its place -/
noncomputable def fin (fr : Fr) (o : Oper) (v : Value) (e : Env) (ds : List ADef) (h : Heap) : CR :=
  match put V fr o v e with
  | some e' => .ok .normal e' ds h
  | none => .no
noncomputable def finV (fr : Fr) (o : Oper) (r : VS) (e : Env) (ds : List ADef) : CR :=
  match r with
  | .ret v h => fin V fr o v e ds h
  | .pan v h => .ok (.pan v) e ds h
  | .no => .no
noncomputable def finA (fr : Fr) (o : Oper) (r : AR) (e : Env) (ds : List ADef) : CR :=
  match r with
  | .ok v h => fin V fr o v e ds h
  | .no => .no

noncomputable def evCallOp (ev : Ev) (fr : Fr) (o : Oper) (c : Call) (e : Env) (ds : List ADef) (h : Heap) : CR :=
  @Bool.casesOn (fun _ => CR) (isBuiltin c.callee)
    (match callOf P h e c with
     | .fn g args => finV V fr o (ev.call g args h) e ds
     | .yield l args => finV V fr o (evYield V ev l args h) e ds
     | .no => finA V fr o (aflat P o h e) e ds)
    (finA V fr o (aop P o h e) e ds)

noncomputable def evDefer (fr : Fr) (o : Oper) (c : Call) (e : Env) (ds : List ADef) (h : Heap) : CR :=
  match fr.rd, c.callee with
  | none, .value f =>
    match opv h e f, opvl h e c.args.toList with
    | some (.func (.func g) ⟨first⟩ ⟨cap⟩), some args => @Bool.casesOn (fun _ => CR) (bodied P g) .no (fin V fr o (.tuple ⟨[]⟩) e (.fn g (first ++ args) cap :: ds) h)
    | _, _ => .no
  | _, _ => .no

noncomputable def evPanic (x : Operand) (e : Env) (ds : List ADef) (h : Heap) : CR :=
  match opv h e x with
  | some (.iface t v) => .ok (.pan (.iface t v)) e ds h
  | _ => .no

noncomputable def evDo (ev : Ev) (fr : Fr) (o : Oper) (e : Env) (ds : List ADef) (h : Heap) : CR :=
  match o.op with
  | .call c => evCallOp P V ev fr o c e ds h
  | .defer c => evDefer P V fr o c e ds h
  | .panic x => evPanic x e ds h
  | _ => finA V fr o (aop P o h e) e ds

noncomputable def evOp (ev : Ev) (fr : Fr) (ops : List Oper) (o : Oper) (e : Env) (ds : List ADef) (h : Heap) : CR :=
  match gd ops o e with
  | some true => evDo P V ev fr o e ds h
  | some false => fin V fr o (.tuple ⟨[]⟩) e ds h
  | none => .no

noncomputable def evOps (ev : Ev) (fr : Fr) (ops : List Oper) (l : List Oper) : Env → List ADef → Heap → CR :=
  @List.rec Oper (fun _ => Env → List ADef → Heap → CR) (fun e ds h => .ok .normal e ds h)
    (fun o _ ih e ds h => match evOp P V ev fr ops o e ds h with
      | .ok .normal e' ds' h' => ih e' ds' h'
      | r => r) l

/-! ### regions that draw their order -/
inductive QK where
  | pure | alloc | eff

def qkind : Op → QK
  | .alloc _ | .box .. | .buildSlice .. | .makeSlice .. => .alloc
  | .makeMap _ none => .alloc
  | .move _ | .pick .. | .build .. | .load .. | .nilCheck _ | .binOp .. | .unOp .. | .convert .. | .makeInterface .. | .makeFunc .. | .slice .. | .fieldAddr .. | .field .. | .indexAddr .. | .index .. | .lookup .. | .typeAssert .. | .extract .. => .pure
  | .call c => match c.callee with
    | .builtin b => match b with
      | .len | .cap | .min | .max => .pure
      | _ => .eff
    | _ => .eff
  | _ => .eff

/-- For each operation, which ones come before it: a number's bits. -/
noncomputable def maskOf (acc : List Nat) (o : Oper) : Nat :=
  o.after.toList.foldl (fun s e => if Region.binds .any e then Nat.lor (Nat.lor s (Nat.shiftLeft 1 e.on)) ((nth acc e.on).getD 0) else s) 0
noncomputable def masksGo (l : List Oper) : List Nat → List Nat :=
  @List.rec Oper (fun _ => List Nat → List Nat) (fun acc => acc) (fun o _ ih acc => ih (acc ++ [maskOf acc o])) l
noncomputable def masks (ops : List Oper) : List Nat := masksGo ops []

/-- An operation, its number, and the bits of those before it. -/
structure Ix where
  i : Nat
  o : Oper
  m : Nat

noncomputable def zip3 : Nat → List Oper → List Nat → List Ix
  | n, o :: os, m :: ms => ⟨n, o, m⟩ :: zip3 (n + 1) os ms
  | _, _, _ => []

structure Phase where
  qs : List Ix
  ef : Option Ix

def isEff (x : Ix) : Bool := match qkind x.o.op with | .eff => true | _ => false

/-- The phases: in each the operations that have just the first c effects before them, then the next effect. -/
noncomputable def phasesGo (l : List Ix) : (es : List Ix) → (done : Nat) → List Phase
  | [], done => [⟨l.filter fun x => !isEff x && Nat.beq (Nat.land x.m done) done && l.all fun y => !isEff y || Nat.testBit done y.i || !Nat.testBit x.m y.i, none⟩]
  | x :: es, done =>
    ⟨l.filter (fun z => !isEff z && Nat.beq (Nat.land z.m done) done && l.all fun y => !isEff y || Nat.testBit done y.i || !Nat.testBit z.m y.i), some x⟩ :: phasesGo l es (Nat.lor done (Nat.shiftLeft 1 x.i))
noncomputable def phases (l : List Ix) : List Phase := phasesGo l (l.filter isEff) 0

/-- How a value leads to a new block. -/
inductive NK where
  | ptr
  | sl (l c : Nat)
  | mp
def NK.mk : NK → Nat → Value
  | .ptr, b => .pointer (some ⟨b, 0, none⟩)
  | .sl l c, b => .slice (some ⟨b, 0, none⟩) l c
  | .mp, b => .map (some b)

/-- The new block of an operation that makes one. -/
noncomputable def newOf (o : Oper) (h : Heap) (e : Env) : Option (NK × AO) :=
  match o.op with
  | .alloc t => match zeroOf P t with
    | some z => some (.ptr, .cells z.cells.toList t false)
    | none => none
  | .box t x => match opv h e x with
    | some v => some (.ptr, .cells v.cells.toList t false)
    | none => none
  | .buildSlice t n ps => match opvs h e ps.toList with
    | some l => match bsCells P t n l with
      | some (cs, el) => some (.sl n n, .cells cs el false)
      | none => none
    | none => none
  | .makeSlice t l c => match opv h e l, opv h e c with
    | some l, some c => match msCells P t l c with
      | some (vs, el, n, m) => some (.sl n m, .cells vs el false)
      | none => none
    | _, _ => none
  | .makeMap _ none => some (.mp, .map [] 0)
  | _ => none

/-- A quiet operation that has been carried out: its value, and its block if it is a new one. -/
structure Done where
  x : Ix
  v : Value
  b : Option (Nat × NK × AO)

/-- The slots that an operation looks at, alone. -/
noncomputable def viewL (e : Env) (l : List Tmp) : List (Nat × Value) :=
  @List.rec Tmp (fun _ => List (Nat × Value)) [] (fun t _ ih => @Option.rec Value (fun _ => List (Nat × Value)) ih (fun v => (t, v) :: ih) (lk t e)) l
noncomputable def viewQ (e : Env) (l : List Tmp) : Env := ⟨viewL e l, []⟩

/-- The heap, whatever numbers have been set aside. -/
def hz (bg : Nat) (h : Heap) : Heap := ⟨h.t, bg, h.gl⟩

noncomputable def quietAt (fr : Fr) (ops : List Oper) (x : Ix) (e vw : Env) (h hq : Heap) : Option (Done × Env × Heap) :=
  match gd ops x.o vw with
  | some false => match put V fr x.o (.tuple ⟨[]⟩) e with
    | some e' => some (⟨x, .tuple ⟨[]⟩, none⟩, e', h)
    | none => none
  | some true =>
    match qkind x.o.op with
    | .pure => match aop P x.o hq vw with
      | .ok v _ => match put V fr x.o v e with
        | some e' => some (⟨x, v, none⟩, e', h)
        | none => none
      | .no => none
    | .alloc => match newOf P x.o hq vw with
      | some (nk, ao) => match put V fr x.o (nk.mk h.nx) e with
        | some e' => some (⟨x, nk.mk h.nx, some (h.nx, nk, ao)⟩, e', ⟨h.t, Nat.succ h.nx, h.gl⟩)
        | none => none
      | none => none
    | .eff => none
  | none => none
noncomputable def quiet (bg : Nat) (fr : Fr) (ops : Array Oper) (x : Ix) (e : Env) (h : Heap) : Option (Done × Env × Heap) :=
  quietAt P V fr ops.toList x e (viewQ e (x.o.looksAt ops)) h (hz bg h)

noncomputable def quiets (bg : Nat) (fr : Fr) (ops : Array Oper) (l : List Ix) : List Done → Env → Heap → Option (List Done × Env × Heap) :=
  @List.rec Ix (fun _ => List Done → Env → Heap → Option (List Done × Env × Heap)) (fun ds e h => some (ds, e, h))
    (fun x _ ih ds e h => match quiet P V bg fr ops x e h with
      | some (d, e', h') => ih (d :: ds) e' h'
      | none => none) l

/-! ### values that are the same -/
mutual
def veq : Value → Value → Bool
  | .bool a, .bool b => a == b
  | .int j a, .int k b => decide (j = k) && eqI a b
  | .string ⟨⟨a⟩⟩, .string ⟨⟨b⟩⟩ => decide (a = b)
  | .pointer none, .pointer none => true
  | .pointer (some a), .pointer (some b) => decide (a = b)
  | .slice none l c, .slice none l' c' => Nat.beq l l' && Nat.beq c c'
  | .slice (some a) l c, .slice (some b) l' c' => decide (a = b) && Nat.beq l l' && Nat.beq c c'
  | .map none, .map none => true
  | .map (some a), .map (some b) => Nat.beq a b
  | .func f ⟨a⟩ ⟨b⟩, .func g ⟨a'⟩ ⟨b'⟩ => decide (f = g) && veqL a a' && veqL b b'
  | .nilFunc, .nilFunc => true
  | .iface t v, .iface u w => Nat.beq t u && veq v w
  | .nilIface, .nilIface => true
  | .agg ⟨a⟩, .agg ⟨b⟩ => veqL a b
  | .tuple ⟨a⟩, .tuple ⟨b⟩ => veqL a b
  | _, _ => false
def veqL : List Value → List Value → Bool
  | [], [] => true
  | v :: l, w :: m => veq v w && veqL l m
  | _, _ => false
end

noncomputable def aoeq : AO → AO → Bool
  | .cells vs t op, .cells ws u oq => veqL vs ws && Nat.beq t u && (op == oq)
  | .map [] 0, .map [] 0 => true
  | _, _ => false

/-- The slots that an operation looks at, alone. -/
noncomputable def view (fn : FuncId) (e : Env) (l : List Tmp) : Env :=
  @List.rec Tmp (fun _ => Env) ⟨[], []⟩ (fun t _ ih => match lk t e with | some v => putE V fn t v ih | none => ih) l

/-- A quiet operation, carried out now, comes to what it came to. -/
noncomputable def stillAt (ops : List Oper) (h : Heap) (d : Done) (e : Env) : Bool :=
  match gd ops d.x.o e with
  | some false => match d.b, d.v with
    | none, .tuple ⟨[]⟩ => true
    | _, _ => false
  | some true =>
    match qkind d.x.o.op, d.b with
    | .pure, none => match aop P d.x.o h e with
      | .ok v _ => veq v d.v
      | .no => false
    | .alloc, some (b, nk, ao) => match newOf P d.x.o h e with
      | some (nk', ao') => veq (nk'.mk b) d.v && veq (nk.mk b) d.v && aoeq ao' ao
      | none => false
    | _, _ => false
  | none => false
noncomputable def still (bg : Nat) (ops : Array Oper) (h : Heap) (e : Env) (d : Done) : Bool :=
  (match d.x.o.dst with
   | some t => match lk t e with
     | some v => veq v d.v
     | none => false
   | none => true) && stillAt P ops.toList (hz bg h) d (viewQ e (d.x.o.looksAt ops))

noncomputable def addAll (l : List Done) (h : Heap) : Heap :=
  l.foldr (fun d h => match d.b with | some (b, _, ao) => h.set b ao | none => h) h

noncomputable def before (x : Ix) (d : Done) : Bool := Nat.testBit x.m d.x.i

/-- The slots that no operation of a region writes. -/
noncomputable def scrub (ops : List Oper) (e : Env) : Env := ⟨[], e.va.filter fun p => ops.all fun o => match o.dst with | some d => !Nat.beq d p.1 | none => true⟩

/-- The slot of an operation, taken over. -/
noncomputable def take1 (fn : FuncId) (o : Oper) (e1 e : Env) : Option Env :=
  match o.dst with
  | none => some e
  | some d => match lk d e1 with
    | some v => some (putE V fn d v e)
    | none => none

noncomputable def evDraw (ev : Ev) (fr : Fr) (ops : Array Oper) (phs : List Phase) : List Done → Env → List ADef → Heap → CR :=
  @List.rec Phase (fun _ => List Done → Env → List ADef → Heap → CR) (fun _ _ _ _ => .no)
    (fun ph _ ih dn e ds h =>
      match quiets P V ev.n fr ops ph.qs dn e h with
      | some (dn', e, h) =>
        @Bool.casesOn (fun _ => CR) (Nat.ble h.nx ev.n && dn.all (still P ev.n ops h e)) .no
          (match ph.ef with
           | none => .ok .normal e ds (addAll dn' h)
           | some x =>
             match evOp P V ev fr ops.toList x.o (view V fr.fn e (x.o.looksAt ops)) ds (addAll (dn'.filter (before x)) h) with
             | .ok .normal e1 ds h => match take1 V fr.fn x.o e1 e with
               | some e => ih (dn'.filter fun d => !before x d) e ds h
               | none => .no
             | .ok (.pan v) _ ds h => .ok (.pan v) (scrub ops.toList e) ds h
             | _ => .no)
      | none => .no) phs

/-! ### the check of the phases -/
def looks (ops : Array Oper) (o : Oper) : List Tmp := o.looksAt ops ++ o.dst.toList

noncomputable def slotsOk (ops : Array Oper) (l : List Ix) : Bool :=
  l.all fun k => match k.o.dst with
    | none => true
    | some d => l.all fun j => (Nat.beq j.i k.i && (isEff k || !(k.o.looksAt ops).contains d)) || !(looks ops j.o).contains d || Nat.testBit j.m k.i || (isEff k && Nat.testBit k.m j.i)

noncomputable def takeQ : List Ix → Nat → Option Nat
  | [], T => some T
  | x :: l, T => if Nat.testBit T x.i || isEff x then none else takeQ l (Nat.lor T (Nat.shiftLeft 1 x.i))

noncomputable def orderOk (l : List Ix) : List Phase → Nat → Bool
  | [], _ => false
  | ph :: phs, T =>
    match takeQ ph.qs T with
    | some T => match ph.ef with
      | none => l.all fun y => Nat.testBit T y.i
      | some x => !Nat.testBit T x.i && isEff x && (l.all fun y => Nat.testBit T y.i || Nat.beq y.i x.i || Nat.testBit y.m x.i) && orderOk l phs (Nat.lor T (Nat.shiftLeft 1 x.i))
    | none => false

noncomputable def edgesOk (l : List Ix) : Bool := l.all fun x => x.o.after.toList.all fun e => !Region.binds .any e || Nat.blt e.on x.i

/-- No quiet operation of a phase writes what another one, or itself, has looked at or written before it. -/
noncomputable def qsOk (ops : Array Oper) : List Ix → Bool
  | [] => true
  | x :: l => (match x.o.dst with | some d => !(x.o.looksAt ops).contains d | none => true) && (l.all fun y => match y.o.dst with | some d => !(looks ops x.o).contains d | none => true) && qsOk ops l

noncomputable def ixs (ops : List Oper) : List Ix := zip3 0 ops (masks ops)

noncomputable def drawOk (ops : Array Oper) : Bool :=
  Region.noSelect ops && edgesOk (ixs ops.toList) && slotsOk ops (ixs ops.toList) && orderOk (ixs ops.toList) (phases (ixs ops.toList)) 0 && (phases (ixs ops.toList)).all fun ph => qsOk ops ph.qs

/-! ### code -/
noncomputable def evRange (ev : Ev) (fr : Fr) (f : Operand) (ps : Array Tmp) (assign body : Code) (e : Env) (ds : List ADef) (h : Heap) : CR :=
  let start (r : Nat) (ds : List ADef) (h : Heap) : CR :=
    (match opv h e f with
     | some (.func (.func g) ⟨first⟩ ⟨cap⟩) =>
       @Bool.casesOn (fun _ => CR) (bodied P g) .no
       (match ev.call g (first ++ (.func (.yield h.nx) ⟨[]⟩ ⟨[]⟩ :: cap)) (h.add (.loop .ready none fr.fn fr.nt ⟨[], e.va⟩ ps assign body r)) with
        | .ret _ h' =>
          match h'.get h.nx with
          | some (.loop st pend fn nt env params assign body defers) =>
            match st with
            | .busy => .no
            | _ =>
              match pend with
              | none => .ok .normal e ds (h'.set h.nx (.loop .exhausted pend fn nt env params assign body defers))
              | some c => ev.code fr c e ds (h'.set h.nx (.loop .exhausted pend fn nt env params assign body defers))
          | _ => .no
        | .pan v h' => .ok (.pan v) e ds h'
        | .no => .no)
     | _ => .no)
  match fr.rd with
  | none => start h.nx (.coll h.nx :: ds) (h.add .defd)
  | some l => match h.get l with
    | some (.loop _ _ _ _ _ _ _ _ r) => start r ds h
    | _ => .no

noncomputable def evLoop (ev : Ev) (fr : Fr) (b : Code) (m : Nat) : Env → List ADef → Heap → CR :=
  @Nat.rec (fun _ => Env → List ADef → Heap → CR) (fun _ _ _ => .no)
    (fun _ ih e ds h => match ev.code fr b e ds h with
      | .ok .normal e ds h => ih e ds h
      | r => r) m

noncomputable def evCode (ev : Ev) (fr : Fr) (c : Code) (e : Env) (ds : List ADef) (h : Heap) : CR :=
  match c with
  | .skip => .ok .normal e ds h
  | .label _ => .ok .normal e ds h
  | .region _ ops false => evOps P V ev fr ops.toList ops.toList ⟨[], e.va⟩ ds h
  | .region _ ops true => @Bool.casesOn (fun _ => CR) (drawOk ops) .no (evDraw P V ev fr ops (phases (ixs ops.toList)) [] ⟨[], e.va⟩ ds h)
  | .seq a b => match ev.code fr a e ds h with
    | .ok .normal e ds h => ev.code fr b e ds h
    | r => r
  | .cond c x y => match opv h e c with
    | some (.bool true) => ev.code fr x e ds h
    | some (.bool false) => ev.code fr y e ds h
    | _ => .no
  | .block id b => match ev.code fr b e ds h with
    | .ok (.exit j) e ds h => @Bool.casesOn (fun _ => CR) (Nat.beq j id) (.ok (.exit j) e ds h) (.ok .normal e ds h)
    | r => r
  | .loop b => evLoop ev fr b ev.n e ds h
  | .rangeFunc f ps as b => evRange P ev fr f ps as b e ds h
  | .exit id => .ok (.exit id) e ds h
  | .goto l => .ok (.goto l) e ds h
  | .ret => .ok .ret e ds h
  | _ => .no

/-! ### functions -/
inductive RC where
  | none
  | some (v : Value)
  | done

noncomputable def evRec (fr : Fr) (o : Oper) (e : Env) (rc : RC) : Option (Env × RC) :=
  match rc with
  | .some v => match put V fr o v e with
    | some e => some (e, .done)
    | none => none
  | rc => match put V fr o .nilIface e with
    | some e => some (e, rc)
    | none => none

def isRecover : Op → Bool
  | .call c => match c.callee with
    | .builtin .recover => true
    | _ => false
  | _ => false

/-- Operations of a deferred function's region, 'recover' among them. -/
noncomputable def evOpsS (fr : Fr) (ops : List Oper) (l : List Oper) : Env → RC → Heap → Option (Env × RC × Heap) :=
  @List.rec Oper (fun _ => Env → RC → Heap → Option (Env × RC × Heap)) (fun e rc h => some (e, rc, h))
    (fun o _ ih e rc h =>
      match gd ops o e with
      | some true =>
        @Bool.casesOn (fun _ => Option (Env × RC × Heap)) (isRecover o.op)
          (match finA V fr o (aop P o h e) e [] with
           | .ok .normal e [] h => ih e rc h
           | _ => none)
          (match evRec V fr o e rc with
           | some (e, rc) => ih e rc h
           | none => none)
      | some false => match put V fr o (.tuple ⟨[]⟩) e with
        | some e => ih e rc h
        | none => none
      | none => none) l

/-- A deferred function's body. -/
noncomputable def evS (ev : Ev) (fr : Fr) : Code → Env → RC → Heap → Option (AExit × Env × RC × Heap)
  | .seq a b, e, rc, h => match evS ev fr a e rc h with
    | some (.normal, e, rc, h) => evS ev fr b e rc h
    | r => r
  | .cond c x y, e, rc, h => match opv h e c with
    | some (.bool true) => evS ev fr x e rc h
    | some (.bool false) => evS ev fr y e rc h
    | _ => none
  | .region i ops false, e, rc, h =>
    @Bool.casesOn (fun _ => Option (AExit × Env × RC × Heap)) (ops.toList.any fun o => isRecover o.op)
      (match ev.code fr (.region i ops false) e [] h with
       | .ok x e [] h => some (x, e, rc, h)
       | _ => none)
      (match evOpsS P V fr ops.toList ops.toList ⟨[], e.va⟩ rc h with
       | some (e, rc, h) => some (.normal, e, rc, h)
       | none => none)
  | c, e, rc, h => match ev.code fr c e [] h with
    | .ok x e [] h => some (x, e, rc, h)
    | _ => none

noncomputable def args0 (fr : Fr) (i : Nat) : List Value → Env → Env
  | [], e => e
  | v :: l, e => args0 fr (i + 1) l (putE V fr.fn i v e)

noncomputable def resOf (h : Heap) (e : Env) (r : ResultVar) : Option Value :=
  match r with
  | .tmp t => lk t e
  | .cell a t => match lk a e with
    | some p => aload P t p h
    | none => none
noncomputable def resL (h : Heap) (e : Env) : List ResultVar → Option (List Value)
  | [] => some []
  | r :: l => match resOf P h e r, resL h e l with
    | some v, some vs => some (v :: vs)
    | _, _ => none
def packL : List Value → Value
  | [v] => v
  | l => .tuple ⟨l⟩

/-- The function leaves: its deferred calls, then its results. -/
noncomputable def leave (ev : Ev) (fn : Func) (e : Env) : List ADef → RC → Heap → VS
  | [], rc, h => match rc with
    | .some v => .pan v h
    | _ => match resL P h e fn.results.toList with
      | some l => .ret (packL l) h
      | none => .no
  | .coll r :: ds, rc, h => match h.get r with
    | some .defd => leave ev fn e ds rc (h.del r)
    | _ => .no
  | .fn f args cap :: ds, rc, h =>
    match P.funcs[f]? with
    | some g => match g.body with
      | some c =>
        @Bool.casesOn (fun _ => VS) (bodied P f && Nat.ble (args ++ cap).length g.ntmps) .no
        (match evS P V ev ⟨f, g.ntmps, none⟩ c (args0 V ⟨f, g.ntmps, none⟩ 0 (args ++ cap) ⟨[], []⟩) rc h with
         | some (.normal, e1, rc', h') => match resL P h' e1 g.results.toList with
           | some _ => leave ev fn e ds (match rc' with | .done => .none | r => r) h'
           | none => .no
         | some (.ret, e1, rc', h') => match resL P h' e1 g.results.toList with
           | some _ => leave ev fn e ds (match rc' with | .done => .none | r => r) h'
           | none => .no
         | _ => .no)
      | none => .no
    | none => .no

noncomputable def evCall (ev : Ev) (g : FuncId) (args : List Value) (h : Heap) : VS :=
  match P.funcs[g]? with
  | some fn => match fn.body with
    | some c =>
      @Bool.casesOn (fun _ => VS) (Nat.ble args.length fn.ntmps) .no
      (match ev.code ⟨g, fn.ntmps, none⟩ c (args0 V ⟨g, fn.ntmps, none⟩ 0 args ⟨[], []⟩) [] h with
       | .ok .normal e ds h => leave P V ev fn e ds .none h
       | .ok .ret e ds h => leave P V ev fn e ds .none h
       | .ok (.pan v) e ds h => leave P V ev fn e ds (.some v) h
       | _ => .no)
    | none => .no
  | none => .no

noncomputable def ev (n : Nat) : Ev := @Nat.rec (fun _ => Ev) ⟨fun _ _ _ _ _ => .no, fun _ _ _ => .no, 0⟩ (fun n ih => ⟨evCode P V ih, evCall P V ih, n⟩) n

end Go.Dx
