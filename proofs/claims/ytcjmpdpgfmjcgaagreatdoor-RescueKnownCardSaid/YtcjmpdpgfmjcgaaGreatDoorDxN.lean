/- DxN: operations of the abstract run, part 11: integers, interfaces, parts of structs, comparisons with nil, builtins. -/
import Derived.Test.YtcjmpdpgfmjcgaaGreatDoorDxM
namespace Go.Dx
variable {P : Program} {ι : Iota}

/-! ### integers (int), by short ways -/
def ltI : Int → Int → Bool
  | .ofNat m, .ofNat n => Nat.blt m n
  | .ofNat _, .negSucc _ => false
  | .negSucc _, .ofNat _ => true
  | .negSucc m, .negSucc n => Nat.blt n m
def eqI : Int → Int → Bool
  | .ofNat m, .ofNat n => Nat.beq m n
  | .negSucc m, .negSucc n => Nat.beq m n
  | _, _ => false
theorem blt_iff (m n : Nat) : Nat.blt m n = decide (m < n) := by
  cases h : Nat.blt m n
  · have : ¬ m < n := fun hl => by have := Nat.ble_eq_true_of_le hl; unfold Nat.blt at h; rw [this] at h; cases h
    simp [this]
  · have : m < n := Nat.le_of_ble_eq_true h
    simp [this]
theorem beq_iff (m n : Nat) : Nat.beq m n = decide (m = n) := by
  cases h : Nat.beq m n
  · have : m ≠ n := by intro e; subst e; simp at h
    simp [this]
  · have : m = n := Nat.eq_of_beq_eq_true h
    simp [this]
theorem ltI_eq (a b : Int) : ltI a b = decide (a < b) := by
  cases a with
  | ofNat m => cases b with
    | ofNat n => simp only [ltI, blt_iff, Int.ofNat_eq_natCast]; simp
    | negSucc n => simp only [ltI]; symm; simp only [decide_eq_false_iff_not]; simp only [Int.ofNat_eq_natCast]; omega
  | negSucc m => cases b with
    | ofNat n => simp only [ltI]; symm; simp only [decide_eq_true_eq, Int.ofNat_eq_natCast]; omega
    | negSucc n => simp only [ltI, blt_iff]; congr 1; apply propext; constructor <;> intro h <;> omega
theorem eqI_eq (a b : Int) : eqI a b = (a == b) := by
  cases a with
  | ofNat m => cases b with
    | ofNat n =>
      simp only [eqI, beq_iff, Int.ofNat_eq_natCast]
      by_cases h : m = n
      · subst h; simp
      · have : ((m : Int) == (n : Int)) = false := by simp; omega
        simp [h, this]
    | negSucc n => rfl
  | negSucc m => cases b with
    | ofNat n => rfl
    | negSucc n =>
      simp only [eqI, beq_iff]
      by_cases h : m = n
      · subst h; simp
      · have : ((Int.negSucc m) == (Int.negSucc n)) = false := by simp; omega
        simp [h, this]

noncomputable def addI (a b : Int) : Option Int :=
  match a, b with
  | .ofNat m, .ofNat n => @Bool.casesOn (fun _ => Option Int) (Nat.blt (Nat.add m n) 9223372036854775808) none (some (.ofNat (Nat.add m n)))
  | _, _ => none
noncomputable def subI (a b : Int) : Option Int :=
  match a, b with
  | .ofNat m, .ofNat n => @Bool.casesOn (fun _ => Option Int) (Nat.ble n m) (@Bool.casesOn (fun _ => Option Int) (Nat.blt n 9223372036854775808) none (some (.negSucc (Nat.pred (Nat.sub n m)))))
      (@Bool.casesOn (fun _ => Option Int) (Nat.blt m 9223372036854775808) none (some (.ofNat (Nat.sub m n))))
  | _, _ => none
noncomputable def mulI (a b : Int) : Option Int :=
  match a, b with
  | .ofNat m, .ofNat n => @Bool.casesOn (fun _ => Option Int) (Nat.blt (Nat.mul m n) 9223372036854775808) none (some (.ofNat (Nat.mul m n)))
  | _, _ => none

theorem wrap_i64_int (n : Int) (h1 : -9223372036854775808 ≤ n) (h2 : n < 9223372036854775808) : IntKind.i64.wrap n = n := by
  have e1 : (2 ^ IntKind.i64.bits : Int) = 18446744073709551616 := by decide
  have e2 : (2 ^ (IntKind.i64.bits - 1) : Int) = 9223372036854775808 := by decide
  simp only [IntKind.wrap, e1, e2, IntKind.signed, Bool.true_and, ge_iff_le, decide_eq_true_eq]
  split <;> omega

theorem addI_eq {a b c : Int} (h : addI a b = some c) : IntKind.i64.wrap (a + b) = c := by
  unfold addI at h
  split at h
  · rename_i m n
    cases hb : Nat.blt (Nat.add m n) 9223372036854775808
    · rw [hb] at h; cases h
    · rw [hb] at h; cases h
      have hlt : m + n < 9223372036854775808 := Nat.le_of_ble_eq_true hb
      have : (Int.ofNat m + Int.ofNat n : Int) = Int.ofNat (m + n) := rfl
      rw [this]; exact wrap_i64 _ hlt
  · cases h
theorem mulI_eq {a b c : Int} (h : mulI a b = some c) : IntKind.i64.wrap (a * b) = c := by
  unfold mulI at h
  split at h
  · rename_i m n
    cases hb : Nat.blt (Nat.mul m n) 9223372036854775808
    · rw [hb] at h; cases h
    · rw [hb] at h; cases h
      have hlt : m * n < 9223372036854775808 := Nat.le_of_ble_eq_true hb
      have : (Int.ofNat m * Int.ofNat n : Int) = Int.ofNat (m * n) := rfl
      rw [this]; exact wrap_i64 _ hlt
  · cases h
theorem subI_eq {a b c : Int} (h : subI a b = some c) : IntKind.i64.wrap (a - b) = c := by
  unfold subI at h
  split at h
  · rename_i m n
    cases hb : Nat.ble n m
    · rw [hb] at h
      cases hb2 : Nat.blt n 9223372036854775808
      · rw [hb2] at h; cases h
      · rw [hb2] at h; cases h
        have hlt : n < 9223372036854775808 := Nat.le_of_ble_eq_true hb2
        have hmn : ¬ n ≤ m := fun hle => by rw [Nat.ble_eq_true_of_le hle] at hb; cases hb
        have e : (Int.ofNat m - Int.ofNat n : Int) = Int.negSucc (Nat.pred (n - m)) := by
          simp only [Int.ofNat_eq_natCast, Nat.pred_eq_sub_one]; omega
        rw [e]
        exact wrap_i64_int _ (by simp only [Nat.pred_eq_sub_one]; omega) (by omega)
    · rw [hb] at h
      cases hb2 : Nat.blt m 9223372036854775808
      · rw [hb2] at h; cases h
      · rw [hb2] at h; cases h
        have hlt : m < 9223372036854775808 := Nat.le_of_ble_eq_true hb2
        have hmn : n ≤ m := Nat.le_of_ble_eq_true hb
        have e : (Int.ofNat m - Int.ofNat n : Int) = Int.ofNat (m - n) := by simp only [Int.ofNat_eq_natCast]; omega
        rw [e]; exact wrap_i64 _ (by omega)
  · cases h

noncomputable def iop (op : BinOp) (a b : Int) : Option Value :=
  match op with
  | .add => match addI a b with | some c => some (.int .i64 c) | none => none
  | .sub => match subI a b with | some c => some (.int .i64 c) | none => none
  | .mul => match mulI a b with | some c => some (.int .i64 c) | none => none
  | .lss => some (.bool (ltI a b))
  | .gtr => some (.bool (ltI b a))
  | .leq => some (.bool (not (ltI b a)))
  | .geq => some (.bool (not (ltI a b)))
  | .eql => some (.bool (eqI a b))
  | .neq => some (.bool (not (eqI a b)))
  | _ => none

theorem iop_sound {op : BinOp} {a b : Int} {v : Value} (h : iop op a b = some v) (t : TypeId) (x y : Operand) (w : World) :
    (do eqGuard op t x y (.int .i64 a) (.int .i64 b); binOp op t (.int .i64 a) (.int .i64 b) : Sem Value).run P w = .ok v w := by
  have hg : (eqGuard op t x y (.int .i64 a) (.int .i64 b)).run P w = .ok () w := by
    cases op <;> rfl
  simp only [Sem.run_bind, hg, Result.andThen_ok]
  unfold iop at h
  split at h
  · split at h
    · rename_i c hc; cases h; simp [binOp, Op.intArith, addI_eq hc]
    · cases h
  · split at h
    · rename_i c hc; cases h; simp [binOp, Op.intArith, subI_eq hc]
    · cases h
  · split at h
    · rename_i c hc; cases h; simp [binOp, Op.intArith, mulI_eq hc]
    · cases h
  · cases h; simp [binOp, Op.intCmp, ltI_eq]
  · cases h; simp [binOp, Op.intCmp, ltI_eq]
  · cases h
    have : (!decide (b < a)) = decide (a ≤ b) := by by_cases h : b < a <;> simp [h] <;> omega
    simp [binOp, Op.intCmp, ltI_eq, this]
  · cases h
    have : (!decide (a < b)) = decide (b ≤ a) := by by_cases h : a < b <;> simp [h] <;> omega
    simp [binOp, Op.intCmp, ltI_eq, this]
  · cases h; simp [binOp, Op.intCmp, eqI_eq]
  · cases h; simp [binOp, Op.intCmp, eqI_eq, bne]
  · cases h

/-! ### comparisons with nil -/
noncomputable def eqNil (d : TypeDesc) (x y : Value) : Option Bool :=
  match d, x, y with
  | .pointer _, .pointer (some _), .pointer none => some false
  | .pointer _, .pointer none, .pointer (some _) => some false
  | .slice _, .slice (some _) _ _, .slice none _ _ => some false
  | .slice _, .slice none _ _, .slice (some _) _ _ => some false
  | .map _ _, .map (some _), .map none => some false
  | .map _ _, .map none, .map (some _) => some false
  | .func _ _ _, .func _ _ _, .nilFunc => some false
  | .func _ _ _, .nilFunc, .func _ _ _ => some false
  | .interface _, .iface _ _, .nilIface => some false
  | .interface _, .nilIface, .iface _ _ => some false
  | _, _, _ => none

noncomputable def abinNil (P : Program) (op : BinOp) (t : TypeId) (x y : Value) : Option Value :=
  match P.underlying t with
  | some d => match eqNil d x y with
    | some b => match op with
      | .eql => some (.bool b)
      | .neq => some (.bool (not b))
      | _ => none
    | none => none
  | none => none

theorem run_equal_nil {t : TypeId} {d : TypeDesc} (hu : P.underlying t = some d) {x y : Value} {b : Bool} (h : eqNil d x y = some b) (n : Nat) (w : World) : (Op.equalIn (n + 1) t x y).run P w = .ok b w := by
  unfold eqNil at h
  split at h <;> first | (cases h; done) | skip
  all_goals cases h
  all_goals simp only [Op.equalIn, Sem.run_bind, run_underlying hu, Result.andThen_ok, Sem.run_pure]
  all_goals rfl

theorem eqNil_rel {d : TypeDesc} {x y x' y' : Value} (hx : VR ι x x') (hy : VR ι y y') {b : Bool} (h : eqNil d x y = some b) : eqNil d x' y' = some b := by
  unfold eqNil at h
  split at h <;> first | (cases h; done) | skip
  all_goals cases h
  all_goals cases hx <;> cases hy
  all_goals rfl

theorem eqNil_guard {d : TypeDesc} {x y : Value} {b : Bool} (h : eqNil d x y = some b) (op : BinOp) (t : TypeId) (ox oy : Operand) : eqGuard op t ox oy x y = pure () := by
  unfold eqNil at h
  split at h <;> first | (cases h; done) | skip
  all_goals cases op <;> rfl

theorem eqNil_bin {d : TypeDesc} {x y : Value} {b : Bool} (h : eqNil d x y = some b) (t : TypeId) :
    binOp .eql t x y = (do pure (.bool (← Op.equal t x y))) ∧ binOp .neq t x y = (do pure (.bool (!(← Op.equal t x y)))) := by
  unfold eqNil at h
  split at h <;> first | (cases h; done) | skip
  all_goals exact ⟨rfl, rfl⟩

theorem abinNil_sound {op : BinOp} {t : TypeId} {x y x' y' v : Value} (hx : VR ι x x') (hy : VR ι y y') (h : abinNil P op t x y = some v) (ox oy : Operand) (w : World) :
    (do eqGuard op t ox oy x' y'; binOp op t x' y' : Sem Value).run P w = .ok v w := by
  unfold abinNil at h
  split at h
  case h_2 => cases h
  rename_i d hu
  split at h
  case h_2 => cases h
  rename_i b he
  have he' := eqNil_rel hx hy he
  have hq : (Op.equal t x' y').run P w = .ok b w := run_equal_nil hu he' 9999 w
  rw [eqNil_guard he']
  have hb := eqNil_bin he' t
  split at h
  · cases h
    rw [hb.1]
    simp only [Sem.run_bind, Sem.run_pure, Result.andThen_ok, hq]
  · cases h
    rw [hb.2]
    simp only [Sem.run_bind, Sem.run_pure, Result.andThen_ok, hq]
  · cases h

/-! ### interfaces -/
noncomputable def amakeInterface (P : Program) (t : TypeId) (x : Value) : Option Value :=
  match P.underlying t with
  | some (.interface _) => none
  | some _ => some (.iface t x)
  | none => none
theorem amakeInterface_sound {t : TypeId} {x x' v : Value} (hx : VR ι x x') (h : amakeInterface P t x = some v) (w : World) : ∃ v', (Instr.makeInterface t x').run P w = .ok v' w ∧ VR ι v v' := by
  unfold amakeInterface at h
  split at h
  · cases h
  · rename_i d hne hu
    cases h
    refine ⟨.iface t x', ?_, .iface t hx⟩
    simp only [Instr.makeInterface, Sem.run_bind, run_underlying hu, Result.andThen_ok]
    rfl
  · cases h

def isIfaceT : TypeDesc → Bool
  | .interface _ => true
  | _ => false

noncomputable def atypeAssert (P : Program) (x : Value) (asserted : TypeId) (ok : Bool) : Option Value :=
  match P.underlying asserted, x with
  | some d, .iface t v =>
    @Bool.casesOn (fun _ => Option Value) (isIfaceT d)
      (@Bool.casesOn (fun _ => Option Value) (Nat.beq t asserted)
        (@Bool.casesOn (fun _ => Option Value) ok none (match zeroOf P asserted with | some z => some (.tuple ⟨[z, .bool false]⟩) | none => none))
        (some (@Bool.casesOn (fun _ => Value) ok v (.tuple ⟨[v, .bool true]⟩)))) none
  | some d, .nilIface =>
    @Bool.casesOn (fun _ => Option Value) ok none (match zeroOf P asserted with | some z => some (.tuple ⟨[z, .bool false]⟩) | none => none)
  | _, _ => none
theorem atypeAssert_sound {xType asserted : TypeId} {x x' v : Value} {ok : Bool} (hx : VR ι x x') (h : atypeAssert P x asserted ok = some v) (w : World) :
    ∃ v', (Instr.typeAssert x' xType asserted ok).run P w = .ok v' w ∧ VR ι v v' := by
  unfold atypeAssert at h
  split at h
  · rename_i d t y hu
    cases hx with
    | iface _ hy =>
      rename_i y'
      cases c1 : isIfaceT d
      · rw [c1] at h
        cases c2 : Nat.beq t asserted
        · rw [c2] at h
          have hne : t ≠ asserted := by intro e; subst e; simp at c2
          cases ok
          · cases h
          · simp only at h
            split at h
            · rename_i z hz
              cases h
              obtain ⟨hf, hzr⟩ := zeroOf_eq hz
              refine ⟨.tuple #[z, .bool false], ?_, .tup (.cons (VR.of_flat ι hf) (.cons (.bool _) .nil))⟩
              simp only [Instr.typeAssert, Sem.run_bind, run_underlying hu, Result.andThen_ok]
              cases d <;> simp [isIfaceT] at c1 <;> simp [hne, hzr]
            · cases h
        · rw [c2] at h
          have he := Nat.eq_of_beq_eq_true c2
          subst he
          cases h
          cases ok
          · refine ⟨y', ?_, hy⟩
            simp only [Instr.typeAssert, Sem.run_bind, run_underlying hu, Result.andThen_ok]
            cases d <;> simp [isIfaceT] at c1 <;> simp
          · refine ⟨.tuple #[y', .bool true], ?_, .tup (.cons hy (.cons (.bool _) .nil))⟩
            simp only [Instr.typeAssert, Sem.run_bind, run_underlying hu, Result.andThen_ok]
            cases d <;> simp [isIfaceT] at c1 <;> simp
      · rw [c1] at h; cases h
  · rename_i d hu
    cases hx
    cases ok
    · cases h
    · simp only at h
      split at h
      · rename_i z hz
        cases h
        obtain ⟨hf, hzr⟩ := zeroOf_eq hz
        refine ⟨.tuple #[z, .bool false], ?_, .tup (.cons (VR.of_flat ι hf) (.cons (.bool _) .nil))⟩
        simp only [Instr.typeAssert, Sem.run_bind, run_underlying hu, Result.andThen_ok]
        cases d <;> simp [hzr]
      · cases h
  · cases h

/-! ### parts of structs and arrays -/
noncomputable def apart (P : Program) (t : TypeId) (cs : List Value) (o : Nat) : Option Value :=
  match P.underlying t with
  | some d =>
    @Bool.casesOn (fun _ => Option Value) (rowish d) (nth cs o)
      (match tsz P t with
       | some n => match cut cs o n with | some l => some (.agg ⟨l⟩) | none => none
       | none => none)
  | none => none
theorem apart_sound {t : TypeId} {cs : List Value} {cs' : Array Value} {o : Nat} {v : Value} (hc : VRL ι cs cs'.toList) (h : apart P t cs o = some v) (w : World) : ∃ v', (part t cs' o).run P w = .ok v' w ∧ VR ι v v' := by
  unfold apart at h
  split at h
  · rename_i d hu
    cases c : rowish d
    · rw [c] at h
      simp only [nth_eq] at h
      obtain ⟨v', h1, h2⟩ := hc.get o v h
      exact ⟨v', run_part hu c (by simpa using h1) w, h2⟩
    · rw [c] at h
      simp only at h
      split at h
      · rename_i n hn
        split at h
        · rename_i l hl
          cases h
          obtain ⟨hle, rfl⟩ := cut_eq hl
          refine ⟨.agg (cs'.extract o (o + n)), ?_, .agg ?_⟩
          · simp [part, run_isAgg hu, c, run_sizeOf hn]
          · have := (hc.drop o).take n
            rw [Array.toList_extract, List.extract_eq_take_drop, Nat.add_sub_cancel_left]
            exact this
        · cases h
      · cases h
  · cases h

noncomputable def afield (P : Program) (t : TypeId) (x : Value) (f : Nat) : Option Value :=
  match P.underlying t, x with
  | some (.struct fields), .agg ⟨cs⟩ => match fields[f]? with
    | some fd => apart P fd.type cs fd.offset
    | none => none
  | _, _ => none
theorem afield_sound {t : TypeId} {x x' v : Value} {f : Nat} (hx : VR ι x x') (h : afield P t x f = some v) (w : World) : ∃ v', (Instr.field t x' f).run P w = .ok v' w ∧ VR ι v v' := by
  unfold afield at h
  split at h
  · rename_i fields cs hu
    split at h
    · rename_i fd hfd
      cases hx with
      | agg hc =>
        obtain ⟨v', h1, h2⟩ := apart_sound hc h w
        refine ⟨v', ?_, h2⟩
        simp only [Instr.field, Sem.run_bind, run_underlying hu, Result.andThen_ok, hfd, asAgg, Sem.run_pure, h1]
    · cases h
  · cases h

noncomputable def aindex (P : Program) (t : TypeId) (x ix : Value) : Option Value :=
  match natOf ix, P.underlying t, x with
  | some i, some (.array len elem), .agg ⟨cs⟩ =>
    @Bool.casesOn (fun _ => Option Value) (Nat.blt i len) none (match tsz P elem with | some n => apart P elem cs (Nat.mul i n) | none => none)
  | some i, some .string, .string ⟨⟨s⟩⟩ => match nth s i with
    | some b => some (.int .u8 (Int.ofNat b.toNat))
    | none => none
  | _, _, _ => none
theorem aindex_sound {t : TypeId} {x x' ix ix' v : Value} (hx : VR ι x x') (hix : VR ι ix ix') (h : aindex P t x ix = some v) (w : World) : ∃ v', (Instr.index t x' ix').run P w = .ok v' w ∧ VR ι v v' := by
  unfold aindex at h
  split at h
  · rename_i i len elem cs hi hu
    obtain ⟨k, rfl⟩ := natOf_eq hi
    cases hix
    cases hx with
    | agg hc =>
      cases c : Nat.blt i len
      · rw [c] at h; cases h
      rw [c] at h
      simp only at h
      split at h
      · rename_i n hn
        have hlt : i < len := Nat.le_of_ble_eq_true c
        obtain ⟨v', h1, h2⟩ := apart_sound hc h w
        refine ⟨v', ?_, h2⟩
        have h1' : Sem.run P (part elem _ (i * n)) w = .ok v' w := h1
        simp only [Instr.index, Sem.run_bind, asIntOf, Sem.run_pure, Result.andThen_ok, run_underlying hu]
        rw [if_pos (by constructor <;> simp only [Int.ofNat_eq_natCast] <;> omega)]
        simp only [Sem.run_bind, run_sizeOf hn, Result.andThen_ok]
        exact h1'
      · cases h
  · rename_i i s hi hu
    obtain ⟨k, rfl⟩ := natOf_eq hi
    cases hix
    cases hx
    split at h
    · rename_i b hb
      cases h
      rw [nth_eq] at hb
      refine ⟨_, ?_, .int _ _⟩
      have hlt := (List.getElem?_eq_some_iff.1 hb).1
      have hge := (List.getElem?_eq_some_iff.1 hb).2
      have hbb : (⟨⟨s⟩⟩ : ByteArray)[i]? = some b := by
        rw [getElem?_pos (⟨⟨s⟩⟩ : ByteArray) i (by exact hlt)]
        congr 1
      simp only [Instr.index, Sem.run_bind, asIntOf, Sem.run_pure, Result.andThen_ok, run_underlying hu]
      have h0 : (0 : Int) ≤ Int.ofNat i := by simp only [Int.ofNat_eq_natCast]; omega
      simp only [h0, if_true, show (Int.ofNat i).toNat = i from rfl, hbb, Sem.run_pure]
      rfl
    · cases h
  · cases h

end Go.Dx
