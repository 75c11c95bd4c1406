/- DyE: the staged evaluator with oracles: what a function comes to at arguments without addresses, where that has been proved by a run of its own. -/
import Derived.Test.YtcjmpdpgfmjcgaaGreatDoorDyD
namespace Go.Dx
variable (P : Program) (V : Nat → Nat → Bool)

/-- What was there is there still. -/
structure Unch (w w' : World) : Prop where
  sz : w.heap.size ≤ w'.heap.size
  same : ∀ c, c < w.heap.size → w'.heap[c]? = w.heap[c]?
  os : w'.os = w.os
  out : w'.output = w.output
  fz : ∀ c : Nat, (∀ o, w.heap[c]? = some o → unfz o) → ∀ o, w'.heap[c]? = some o → unfz o

theorem Unch.hr {ι : Iota} {h : Heap} {w w' : World} (u : Unch w w') (hr : HR ι h w.heap) : HR ι h w'.heap :=
  ⟨fun b o hb => by
    obtain ⟨bi, o', h1, h2, h3⟩ := hr.obj b o hb
    exact ⟨bi, o', h1, by rw [u.same _ (Array.getElem?_eq_some_iff.1 h2).1]; exact h2, h3⟩, hr.inj, hr.fresh, hr.glo, hr.gn⟩
theorem Unch.adv {ι : Iota} {h : Heap} {w w' : World} (u : Unch w w') : Adv ι h w ι h w' :=
  ⟨.refl _, u.sz, fun c hc _ => u.same c hc, fun _ hr _ => hr, Nat.le_refl _, fun _ _ => rfl, rfl, u.os, u.out, u.fz⟩

/-- The function comes to the value, whatever the world. -/
structure Orc (g : FuncId) (args : List Value) (v : Value) : Prop where
  fa : flatL args = true
  fv : flat v = true
  calls : ∀ w, Calls P g args.toArray w fun e w' => e = .returned v ∧ Unch w w'

/-! ### a table -/
noncomputable def look (args : List Value) (l : List (List Value × Value)) : Option Value :=
  @List.rec (List Value × Value) (fun _ => Option Value) none (fun p _ ih => @Bool.rec (fun _ => Option Value) ih (some p.2) (veqL p.1 args)) l
noncomputable def tabOf (g : FuncId) (t : List (Nat × List (List Value × Value))) : Option (List (List Value × Value)) :=
  @List.rec (Nat × List (List Value × Value)) (fun _ => Option (List (List Value × Value))) none (fun p _ ih => @Bool.rec (fun _ => Option (List (List Value × Value))) ih (some p.2) (Nat.beq p.1 g)) t

def TabOK (t : List (Nat × List (List Value × Value))) : Prop := ∀ p ∈ t, ∀ q ∈ p.2, Orc P p.1 q.1 q.2

theorem look_mem {args : List Value} {v : Value} : ∀ {l : List (List Value × Value)}, look args l = some v → (args, v) ∈ l := by
  intro l
  induction l with
  | nil => intro h; cases h
  | cons p l ih =>
    intro h
    change @Bool.rec (fun _ => Option Value) (look args l) (some p.2) (veqL p.1 args) = some v at h
    cases hq : veqL p.1 args
    · rw [hq] at h; exact List.mem_cons_of_mem _ (ih h)
    · rw [hq] at h
      cases h
      rw [← veqL_eq hq]; exact List.mem_cons_self
theorem tabOf_mem {g : FuncId} {l : List (List Value × Value)} : ∀ {t : List (Nat × List (List Value × Value))}, tabOf g t = some l → (g, l) ∈ t := by
  intro t
  induction t with
  | nil => intro h; cases h
  | cons p t ih =>
    intro h
    change @Bool.rec (fun _ => Option (List (List Value × Value))) (tabOf g t) (some p.2) (Nat.beq p.1 g) = some l at h
    cases hq : Nat.beq p.1 g
    · rw [hq] at h; exact List.mem_cons_of_mem _ (ih h)
    · rw [hq] at h
      cases h
      rw [← Nat.eq_of_beq_eq_true hq]; exact List.mem_cons_self

/-- A call: the oracle first. -/
structure VClo where
  run : Ev → List Value → Heap → VS
noncomputable def callF (t : List (Nat × List (List Value × Value))) (g : FuncId) : VClo :=
  match tabOf g t with
  | none => ⟨fun ev args h => evCall P V ev g args h⟩
  | some l => ⟨fun ev args h => @Option.rec Value (fun _ => VS) (evCall P V ev g args h) (fun v => .ret v h) (look args l)⟩

noncomputable def evO (t : List (Nat × List (List Value × Value))) (n : Nat) : Ev :=
  @Nat.rec (fun _ => Ev) ⟨fun _ _ _ _ _ => .no, fun _ _ _ => .no, 0⟩ (fun n ih => ⟨fun fr c => (codeC P V c).run ih fr, fun g => (callF P V t g).run ih, n⟩) n

variable {P V}

theorem evO_ok (hm : P.follows .mixedOrders = true) {t : List (Nat × List (List Value × Value))} (ht : TabOK P t) : ∀ n, EvOK P V (evO P V t n) := by
  intro n
  induction n with
  | zero =>
    refine ⟨fun hs => ?_, fun hs hne => ?_⟩
    · cases hs
    · exact absurd hs.symm hne
  | succ n ih =>
    refine ⟨fun {fr c e ds h x e' ds' h'} hs ι w a F hr hf hF => ?_, fun {g args h r} hs hne ι w args' hr hv => ?_⟩
    · have hs' : evCode P V (evO P V t n) fr c e ds h = .ok x e' ds' h' := (codeC_eq P V _ fr c e ds h).symm.trans hs
      exact evCode_sound ih (fun hd hq ι w a F id hr hf hF => draw_sound hm ih hd hq id hr hf hF) hs' hr hf hF
    · change (callF P V t g).run (evO P V t n) args h = r at hs
      unfold callF at hs
      split at hs
      · exact evCall_sound ih hs hne hr hv
      · rename_i l hl
        change @Option.rec Value (fun _ => VS) (evCall P V (evO P V t n) g args h) (fun v => .ret v h) (look args l) = r at hs
        cases hq : look args l with
        | none => rw [hq] at hs; exact evCall_sound ih hs hne hr hv
        | some v =>
          rw [hq] at hs
          subst hs
          have ho := ht _ (tabOf_mem hl) _ (look_mem hq)
          have ha : args'.toList = args := hv.flat_eq ho.fa
          have ha' : args' = args.toArray := by rw [← ha]
          subst ha'
          refine (ho.calls w).mono ?_
          rintro e w' ⟨rfl, hu⟩
          exact ⟨ι, v, rfl, VR.of_flat ι ho.fv, hu.hr hr, hu.adv⟩

/-- The run came to this value. -/
noncomputable def isV (v : Value) (r : VS) : Bool :=
  match r with
  | .ret u _ => veq u v
  | _ => false

theorem closed_orc (hm : P.follows .mixedOrders = true) {t : List (Nat × List (List Value × Value))} (ht : TabOK P t) {f : FuncId} {args : List Value} {v : Value} {n g0 gl : Nat} (hg : gl ≤ g0) (hfa : flatL args = true) (hfv : flat v = true)
    (hs : isV v ((evO P V t n).call f args ⟨.e, g0, gl⟩) = true) : Orc P f args v := by
  refine ⟨hfa, hfv, fun w => ?_⟩
  have hget : ∀ b, (⟨.e, g0, gl⟩ : Heap).get b = none := fun b => by unfold Heap.get; exact tget_e b
  have hr : HR (fun _ => none) ⟨.e, g0, gl⟩ w.heap :=
    ⟨(fun b o h => by rw [hget] at h; cases h), (fun b b' o o' bi bi' h => by rw [hget] at h; cases h), (fun b bi h => nomatch h), (fun g bi _ h => nomatch h), hg⟩
  have hnr : ∀ c, ¬ Rg (fun _ => none) (⟨.e, g0, gl⟩ : Heap) c := by
    rintro c ⟨b, o, bi, h1, _⟩; rw [hget] at h1; cases h1
  generalize hq : (evO P V t n).call f args ⟨.e, g0, gl⟩ = r at hs
  unfold isV at hs
  split at hs
  · rename_i u h'
    have := veq_eq hs
    subst this
    refine ((evO_ok hm ht n).call hq (by simp) hr (args' := args.toArray) (VRL.of_flat _ hfa)).mono ?_
    rintro e w' ⟨ι', v', rfl, hv, _, ha⟩
    have := hv.flat_eq hfv
    subst this
    exact ⟨rfl, ha.sz, fun c hc => ha.fr c hc (hnr c), ha.os, ha.out, ha.fz⟩
  · cases hs

theorem Unch.grown {w w' : World} (u : Unch w w') : RowKit.Grown w w' :=
  grown_of_adv (ι := fun _ => none) (h := ⟨.e, 0, 0⟩) (u.adv) (by
    rintro c ⟨b, o, bi, h1, _⟩
    have : (⟨.e, 0, 0⟩ : Heap).get b = none := by unfold Heap.get; exact tget_e b
    rw [this] at h1; cases h1)

end Go.Dx
