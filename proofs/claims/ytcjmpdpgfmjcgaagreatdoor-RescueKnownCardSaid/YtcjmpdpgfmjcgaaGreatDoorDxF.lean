/- DxF: operations of the abstract run, part 3: what needs no memory, addresses of fields and elements. -/
import Derived.Test.YtcjmpdpgfmjcgaaGreatDoorDxE
namespace Go.Dx
variable {P : Program}

/-- What a computation that meets no memory comes to. -/
noncomputable def pureRun (P : Program) {α : Type} (s : Sem α) : Option α :=
  @Sem.rec α (fun _ => Option α) (fun a => some a) (fun _ _ _ _ => none) (fun _ _ _ _ _ => none) (fun _ _ _ => none) (fun _ _ _ => none) (fun _ _ _ _ => none)
    (fun _ _ _ => none) (fun _ _ _ => none) (fun _ _ _ _ => none) (fun _ _ _ => none) (fun _ _ _ => none) (fun _ ih => ih P) (fun _ _ ih => ih) (fun _ => none) s
theorem pureRun_run {α : Type} {s : Sem α} {a : α} (h : pureRun P s = some a) (w : World) : s.run P w = .ok a w := by
  induction s with
  | pure x => cases h; rfl
  | program k ih => exact ih P h
  | mark m k ih => exact ih h
  | _ => cases h

def isSel : Op → Bool
  | .select .. => true
  | _ => false

noncomputable def flatOpd (h : Heap) (e : Env) (x : Operand) : Bool :=
  match opv h e x with
  | some v => flat v
  | none => false
noncomputable def rho (h : Heap) (e : Env) (x : Operand) : Value :=
  match opv h e x with
  | some v => v
  | none => undef

theorem flatOpd_eq {ι : Iota} {h : Heap} {hp : Array Obj} {e : Env} {a : Act} (hr : HR ι h hp) (he : EnvR ι e a.tmps) {x : Operand} (hf : flatOpd h e x = true) : a.eval x = rho h e x := by
  unfold flatOpd at hf
  unfold rho
  split at hf
  · rename_i v hv
    exact (opv_sound hr he hv).flat_eq hf
  · cases hf

/-- An operation on values without addresses. -/
noncomputable def aflat (P : Program) (o : Oper) (h : Heap) (e : Env) : AR :=
  @Bool.casesOn (fun _ => AR) (isSel o.op)
    (@Bool.casesOn (fun _ => AR) (o.op.operands.toList.all (flatOpd h e)) .no
      (match pureRun P (execOp (rho h e) o) with
       | some (.value v) => @Bool.casesOn (fun _ => AR) (flat v) .no (.ok v h)
       | _ => .no)) .no

theorem aflat_sound {ι : Iota} {h h' : Heap} {w : World} {e : Env} {a : Act} (hr : HR ι h w.heap) (he : EnvR ι e a.tmps) {o : Oper} {v : Value} (hs : aflat P o h e = .ok v h') :
    OpS P ι h w (execOp a.eval o) v h' := by
  unfold aflat at hs
  cases h1 : isSel o.op
  · rw [h1] at hs
    cases h2 : o.op.operands.toList.all (flatOpd h e)
    · rw [h2] at hs; cases hs
    · rw [h2] at hs
      simp only at hs
      split at hs
      · rename_i v1 hp
        cases h3 : flat v1
        · rw [h3] at hs; cases hs
        · rw [h3] at hs
          simp only [AR.ok.injEq] at hs
          obtain ⟨rfl, rfl⟩ := hs
          have hc : execOp a.eval o = execOp (rho h e) o := execOp_congr o (fun cs b hx => by rw [hx] at h1; cases h1) (fun x hx => flatOpd_eq hr he (List.all_eq_true.1 h2 x (by simpa using hx)))
          rw [hc]
          exact OpS.here hr (pureRun_run hp w) (VR.of_flat ι h3)
      · cases hs
  · rw [h1] at hs; cases hs

/-! ### addresses -/
noncomputable def fieldOff (P : Program) (s : TypeId) (f : Nat) : Option Nat :=
  match P.underlying s with
  | some (.struct fields) =>
    match fields[f]? with
    | some fd => match tsz P fd.type with
      | some (_ + 1) => some fd.offset
      | _ => none
    | none => none
  | _ => none
noncomputable def afieldAddr (P : Program) (s : TypeId) (p : Value) (f : Nat) : Option Value :=
  match p with
  | .pointer (some ⟨b, o, none⟩) => match fieldOff P s f with
    | some off => some (.pointer (some ⟨b, Nat.add o off, none⟩))
    | none => none
  | _ => none
theorem afieldAddr_sound {ι : Iota} {s : TypeId} {p p' v : Value} {f : Nat} (hp : VR ι p p') (hs : afieldAddr P s p f = some v) (w : World) :
    ∃ v', (Instr.fieldAt s p' f).run P w = .ok v' w ∧ VR ι v v' := by
  unfold afieldAddr at hs
  split at hs
  · rename_i b o
    cases hp with
    | ptr hi =>
      rename_i bi
      split at hs
      · rename_i off hoff
        cases hs
        unfold fieldOff at hoff
        split at hoff
        · rename_i fields hu
          split at hoff
          · rename_i fd hfd
            split at hoff
            · rename_i n hn
              cases hoff
              refine ⟨.pointer (some ⟨bi.blk, o + fd.offset, none⟩), ?_, .ptr hi⟩
              simp [Instr.fieldAt, run_underlying hu, hfd, Instr.sureAddr, fieldPlace, run_sizeOf hn, add_none]
            · cases hoff
          · cases hoff
        · cases hoff
      · cases hs
  · cases hs

/-- The number in an int value, if it is not below 0. -/
def natOf : Value → Option Nat
  | .int _ (.ofNat n) => some n
  | _ => none
theorem natOf_eq {v : Value} {n : Nat} (h : natOf v = some n) : ∃ k, v = .int k (Int.ofNat n) := by
  unfold natOf at h
  split at h
  · cases h; exact ⟨_, rfl⟩
  · cases h

noncomputable def aindexAddr (P : Program) (t : TypeId) (x ix : Value) : Option Value :=
  match natOf ix with
  | some i =>
    match P.underlying t, x with
    | some (.array len elem), .pointer (some ⟨b, o, none⟩) =>
      @Bool.casesOn (fun _ => Option Value) (Nat.blt i len) none (match tsz P elem with | some n => some (.pointer (some ⟨b, Nat.add o (Nat.mul i n), none⟩)) | none => none)
    | some (.slice elem), .slice (some ⟨b, o, _⟩) len _ =>
      @Bool.casesOn (fun _ => Option Value) (Nat.blt i len) none (match tsz P elem with | some n => some (.pointer (some ⟨b, Nat.add o (Nat.mul i n), none⟩)) | none => none)
    | _, _ => none
  | none => none
theorem aindexAddr_sound {ι : Iota} {t : TypeId} {x x' ix ix' v : Value} (hx : VR ι x x') (hix : VR ι ix ix') (hs : aindexAddr P t x ix = some v) (w : World) :
    ∃ v', (Instr.indexAt t x' ix').run P w = .ok v' w ∧ VR ι v v' := by
  unfold aindexAddr at hs
  split at hs
  · rename_i i hi
    obtain ⟨k, rfl⟩ := natOf_eq hi
    cases hix
    split at hs
    · rename_i len elem b o hu
      cases hx with
      | ptr hb =>
        rename_i bi
        cases hl : Nat.blt i len
        · rw [hl] at hs; cases hs
        · rw [hl] at hs
          simp only at hs
          split at hs
          · rename_i n hn
            cases hs
            have hlt : i < len := Nat.le_of_ble_eq_true hl
            refine ⟨.pointer (some ⟨bi.blk, o + i * n, none⟩), ?_, .ptr hb⟩
            simp [Instr.indexAt, asIntOf, run_underlying hu, Instr.sureAddr, run_sizeOf hn, add_none, hlt]
          · cases hs
    · rename_i elem b o sp len cap hu
      cases hl : Nat.blt i len
      · rw [hl] at hs; cases hs
      · rw [hl] at hs
        simp only at hs
        split at hs
        · rename_i n hn
          cases hs
          have hlt : i < len := Nat.le_of_ble_eq_true hl
          cases hx with
          | sl hb =>
            rename_i bi
            refine ⟨.pointer (some ⟨bi.blk, o + i * n, none⟩), ?_, .ptr hb⟩
            simp [Instr.indexAt, asIntOf, run_underlying hu, run_sizeOf hn, add_none, hlt]
          | @slo _ _ _ _ c' bi hb _ _ =>
            refine ⟨.pointer (some ⟨bi.blk, o + i * n, none⟩), ?_, .ptr hb⟩
            simp [Instr.indexAt, asIntOf, run_underlying hu, run_sizeOf hn, add_none, hlt]
          | sle => omega
        · cases hs
    · cases hs
  · cases hs

end Go.Dx
