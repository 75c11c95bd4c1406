/- DxZ: the abstract run is sound, part 9: the operations of a drawn region: who comes before whom; the quiet ones of a phase. -/
import Derived.Test.YtcjmpdpgfmjcgaaGreatDoorDxY
namespace Go.Dx
variable {P : Program} {V : Nat → Nat → Bool} {ι : Iota} {bg : Nat}

theorem testBit_set (T i j : Nat) : Nat.testBit (Nat.lor T (Nat.shiftLeft 1 i)) j = (Nat.testBit T j || decide (i = j)) := by
  show Nat.testBit (T ||| (1 <<< i)) j = _
  rw [Nat.testBit_or]
  congr 1
  rw [Nat.testBit_shiftLeft]
  by_cases h : i = j
  · subst h; simp
  · rcases Nat.lt_or_ge j i with h1 | h1
    · have : ¬ j ≥ i := by omega
      simp [this, h]
    · have hne : j - i ≠ 0 := by omega
      have : Nat.testBit 1 (j - i) = false := by
        cases hq : Nat.testBit 1 (j - i) with
        | false => rfl
        | true => exact absurd (Nat.testBit_one_eq_true_iff_self_eq_zero.1 hq) hne
      simp [h1, h, this]

/-! ### masks -/
theorem maskOf_bit {acc : List Nat} {o : Oper} {j : Nat} (h : Nat.testBit (maskOf acc o) j = true) :
    ∃ e ∈ o.after, Region.binds .any e = true ∧ (e.on = j ∨ ∃ m, acc[e.on]? = some m ∧ Nat.testBit m j = true) := by
  have key : ∀ (l : List Edge) (s : Nat), Nat.testBit (l.foldl (fun s e => if Region.binds .any e then Nat.lor (Nat.lor s (Nat.shiftLeft 1 e.on)) ((nth acc e.on).getD 0) else s) s) j = true →
      Nat.testBit s j = true ∨ ∃ e ∈ l, Region.binds .any e = true ∧ (e.on = j ∨ ∃ m, acc[e.on]? = some m ∧ Nat.testBit m j = true) := by
    intro l
    induction l with
    | nil => intro s h; exact .inl h
    | cons e l ih =>
      intro s h
      rw [List.foldl_cons] at h
      rcases ih _ h with h1 | ⟨e', h1, h2⟩
      · by_cases hb : Region.binds .any e = true
        · rw [if_pos hb] at h1
          have h2 : Nat.testBit (Nat.lor s (Nat.shiftLeft 1 e.on) ||| (nth acc e.on).getD 0) j = true := h1
          rw [Nat.testBit_or, testBit_set, nth_eq] at h2
          simp only [Bool.or_eq_true, decide_eq_true_eq] at h2
          rcases h2 with (h2 | h2) | h2
          · exact .inl h2
          · exact .inr ⟨e, List.mem_cons_self, hb, .inl h2⟩
          · refine .inr ⟨e, List.mem_cons_self, hb, .inr ?_⟩
            cases hq : acc[e.on]? with
            | none => rw [hq] at h2; simp at h2
            | some m => rw [hq] at h2; exact ⟨m, rfl, h2⟩
        · rw [if_neg hb] at h1; exact .inl h1
      · exact .inr ⟨e', List.mem_cons_of_mem _ h1, h2⟩
  rcases key o.after.toList 0 h with h1 | ⟨e, h1, h2⟩
  · simp at h1
  · exact ⟨e, by simpa using h1, h2⟩

def MGood (ops : List Oper) (acc : List Nat) : Prop := ∀ (k m : Nat), acc[k]? = some m → ∃ o, ops[k]? = some o ∧ ∀ j, Nat.testBit m j = true → ∃ e ∈ o.after, Region.binds .any e = true ∧ (e.on = j ∨ ∃ m', acc[e.on]? = some m' ∧ Nat.testBit m' j = true)

theorem masksGo_cons (o : Oper) (l : List Oper) (acc : List Nat) : masksGo (o :: l) acc = masksGo l (acc ++ [maskOf acc o]) := rfl
theorem masksGo_good {ops : List Oper} : ∀ (l : List Oper) (acc : List Nat), ops.drop acc.length = l → acc.length ≤ ops.length → MGood ops acc → MGood ops (masksGo l acc) ∧ (masksGo l acc).length = ops.length := by
  intro l
  induction l with
  | nil =>
    intro acc hd hl hg
    refine ⟨hg, ?_⟩
    have := congrArg List.length hd
    simp at this
    show acc.length = _
    omega
  | cons o l ih =>
    intro acc hd hl hg
    rw [masksGo_cons]
    have ho : ops[acc.length]? = some o := by
      have h1 : (ops.drop acc.length)[0]? = some o := by rw [hd]; rfl
      rw [List.getElem?_drop] at h1; simpa using h1
    have hlt : acc.length < ops.length := (List.getElem?_eq_some_iff.1 ho).1
    refine ih _ ?_ (by simp; omega) ?_
    · have : (ops.drop acc.length).drop 1 = l := by rw [hd]; rfl
      rw [List.drop_drop] at this; simpa using this
    · intro k m hk
      rcases Nat.lt_or_ge k acc.length with h1 | h1
      · rw [List.getElem?_append_left h1] at hk
        obtain ⟨o', g1, g2⟩ := hg k m hk
        refine ⟨o', g1, fun j hj => ?_⟩
        obtain ⟨e, q1, q2, q3⟩ := g2 j hj
        refine ⟨e, q1, q2, q3.imp id ?_⟩
        rintro ⟨m', r1, r2⟩
        exact ⟨m', by rw [List.getElem?_append_left (List.getElem?_eq_some_iff.1 r1).1]; exact r1, r2⟩
      · rw [List.getElem?_append_right h1] at hk
        have hk0 : k = acc.length := by
          have := (List.getElem?_eq_some_iff.1 hk).1
          simp at this; omega
        subst hk0
        simp at hk
        subst hk
        refine ⟨o, ho, fun j hj => ?_⟩
        obtain ⟨e, q1, q2, q3⟩ := maskOf_bit hj
        refine ⟨e, q1, q2, q3.imp id ?_⟩
        rintro ⟨m', r1, r2⟩
        exact ⟨m', by rw [List.getElem?_append_left (List.getElem?_eq_some_iff.1 r1).1]; exact r1, r2⟩

theorem masks_good (ops : List Oper) : MGood ops (masks ops) ∧ (masks ops).length = ops.length :=
  masksGo_good ops [] rfl (Nat.zero_le _) (fun k m h => by simp at h)

theorem mem_zip3 : ∀ (os : List Oper) (ms : List Nat) (n : Nat) (x : Ix), x ∈ zip3 n os ms → ∃ k, x.i = n + k ∧ os[k]? = some x.o ∧ ms[k]? = some x.m := by
  intro os
  induction os with
  | nil => intro ms n x h; simp [zip3] at h
  | cons o os ih =>
    intro ms n x h
    cases ms with
    | nil => simp [zip3] at h
    | cons m ms =>
      simp only [zip3] at h
      rcases List.mem_cons.1 h with h | h
      · subst h; exact ⟨0, rfl, rfl, rfl⟩
      · obtain ⟨k, h1, h2, h3⟩ := ih ms (n + 1) x h
        exact ⟨k + 1, by omega, by simpa using h2, by simpa using h3⟩
theorem zip3_get : ∀ (os : List Oper) (ms : List Nat) (n k : Nat) (o : Oper) (m : Nat), os[k]? = some o → ms[k]? = some m → ⟨n + k, o, m⟩ ∈ zip3 n os ms := by
  intro os
  induction os with
  | nil => intro ms n k o m h; simp at h
  | cons o1 os ih =>
    intro ms n k o m h hm
    cases ms with
    | nil => simp at hm
    | cons m1 ms =>
      simp only [zip3]
      cases k with
      | zero => simp at h hm; subst h; subst hm; exact List.mem_cons_self
      | succ k =>
        have := ih ms (n + 1) k o m (by simpa using h) (by simpa using hm)
        rw [show n + 1 + k = n + (k + 1) by omega] at this
        exact List.mem_cons_of_mem _ this

theorem mem_ixs {ops : Array Oper} {x : Ix} (h : x ∈ ixs ops.toList) : ops[x.i]? = some x.o ∧ (masks ops.toList)[x.i]? = some x.m := by
  obtain ⟨k, h1, h2, h3⟩ := mem_zip3 _ _ 0 x h
  have : x.i = k := by omega
  subst this
  exact ⟨by simpa using h2, h3⟩
theorem ixs_get {ops : Array Oper} {k : Nat} {o : Oper} (h : ops[k]? = some o) : ∃ x ∈ ixs ops.toList, x.i = k ∧ x.o = o := by
  have hlt : k < (masks ops.toList).length := by
    rw [(masks_good ops.toList).2]
    have := (Array.getElem?_eq_some_iff.1 h).1
    simpa using this
  have := zip3_get ops.toList (masks ops.toList) 0 k o _ (by simpa using h) (List.getElem?_eq_getElem hlt)
  exact ⟨_, this, by simp, rfl⟩
theorem ixs_inj {ops : Array Oper} {x y : Ix} (hx : x ∈ ixs ops.toList) (hy : y ∈ ixs ops.toList) (h : x.i = y.i) : x = y := by
  obtain ⟨a1, a2⟩ := mem_ixs hx
  obtain ⟨b1, b2⟩ := mem_ixs hy
  rw [h, b1] at a1; rw [h, b2] at a2
  obtain ⟨i, o, m⟩ := x
  obtain ⟨i', o', m'⟩ := y
  simp only [Option.some.injEq] at a1 a2 h
  rw [h, a1, a2]

/-- What is before an operation whose edges are all met has been listed. -/
theorem closure {ops : Array Oper} (he : edgesOk (ixs ops.toList) = true) {L : Nat → Prop} (hc : ∀ k, L k → ∀ o, ops[k]? = some o → ∀ e ∈ o.after, Region.binds .any e = true → L e.on) :
    ∀ (n : Nat) (x : Ix), x.i < n → x ∈ ixs ops.toList → (∀ e ∈ x.o.after, Region.binds .any e = true → L e.on) → ∀ j, Nat.testBit x.m j = true → L j := by
  intro n
  induction n with
  | zero => intro x h; omega
  | succ n ih =>
    intro x hn hx hr j hj
    obtain ⟨h1, h2⟩ := mem_ixs hx
    obtain ⟨o, g1, g2⟩ := (masks_good ops.toList).1 _ _ h2
    have : o = x.o := by
      have : ops.toList[x.i]? = some x.o := by simpa using h1
      rw [g1] at this; cases this; rfl
    subst this
    obtain ⟨e, q1, q2, q3⟩ := g2 j hj
    rcases q3 with rfl | ⟨m', r1, r2⟩
    · exact hr e q1 q2
    · have hlt : e.on < x.i := by
        unfold edgesOk at he
        have h3 := List.all_eq_true.1 he x hx
        have h4 := List.all_eq_true.1 h3 e (by simpa using q1)
        simp only [q2, Bool.not_true, Bool.false_or] at h4
        exact Nat.le_of_ble_eq_true h4
      have hlt2 : e.on < ops.size := by
        have := (List.getElem?_eq_some_iff.1 r1).1
        rw [(masks_good ops.toList).2] at this
        simpa using this
      have hy : (⟨e.on, ops[e.on], m'⟩ : Ix) ∈ ixs ops.toList := by
        have := zip3_get ops.toList (masks ops.toList) 0 e.on ops[e.on] m' (by simp [hlt2]) r1
        simpa [ixs] using this
      exact ih _ (by show e.on < n; omega) hy (fun e' he' hb' => hc e.on (hr e q1 q2) _ (by simp [hlt2]) e' he' hb') j r2

theorem phases_mem {l : List Ix} : ∀ (es : List Ix) (done : Nat), (∀ x ∈ es, x ∈ l) → ∀ ph ∈ phasesGo l es done, (∀ x ∈ ph.qs, x ∈ l) ∧ ∀ x, ph.ef = some x → x ∈ l := by
  intro es
  induction es with
  | nil =>
    intro done _ ph hp
    simp only [phasesGo, List.mem_singleton] at hp
    subst hp
    exact ⟨fun x hx => (List.mem_filter.1 hx).1, fun x hx => by cases hx⟩
  | cons y es ih =>
    intro done hs ph hp
    simp only [phasesGo] at hp
    rcases List.mem_cons.1 hp with h | h
    · subst h
      exact ⟨fun x hx => (List.mem_filter.1 hx).1, fun x hx => by cases hx; exact hs _ List.mem_cons_self⟩
    · exact ih _ (fun x hx => hs x (List.mem_cons_of_mem _ hx)) ph h

/-! ### the quiet operations of a phase -/
/-- A quiet operation that has been carried out would come to the same now. -/
def StillAt (P : Program) (ops : List Oper) (h : Heap) (d : Done) (e : Env) : Prop :=
  (gd ops d.x.o e = some false ∧ d.b = none ∧ d.v = .tuple ⟨[]⟩) ∨
  (gd ops d.x.o e = some true ∧ qkind d.x.o.op = .pure ∧ d.b = none ∧ ∃ h1, aop P d.x.o h e = .ok d.v h1) ∨
  (gd ops d.x.o e = some true ∧ qkind d.x.o.op = .alloc ∧ ∃ b nk ao, d.b = some (b, nk, ao) ∧ newOf P d.x.o h e = some (nk, ao) ∧ d.v = nk.mk b)
structure Still (P : Program) (bg : Nat) (ops : Array Oper) (h : Heap) (e : Env) (d : Done) : Prop where
  slot : ∀ t, d.x.o.dst = some t → lk t e = some d.v
  at' : StillAt P ops.toList (hz bg h) d (viewQ e (d.x.o.looksAt ops))

theorem still_sound {ops : Array Oper} {h : Heap} {e : Env} {d : Done} (hs : still P bg ops h e d = true) : Still P bg ops h e d := by
  unfold still at hs
  simp only [Bool.and_eq_true] at hs
  obtain ⟨hs1, hs2⟩ := hs
  refine ⟨fun t ht => ?_, ?_⟩
  · rw [ht] at hs1
    simp only at hs1
    split at hs1
    · rename_i v hv
      rw [hv, veq_eq hs1]
    · cases hs1
  · unfold stillAt at hs2
    split at hs2
    · rename_i hg
      split at hs2
      · rename_i hb hv; exact .inl ⟨hg, hb, hv⟩
      · cases hs2
    · rename_i hg
      split at hs2
      · rename_i hk hb
        split at hs2
        · rename_i v h1 hop
          exact .inr (.inl ⟨hg, hk, hb, h1, by rw [← veq_eq hs2]; exact hop⟩)
        · cases hs2
      · rename_i b nk ao hk hb
        split at hs2
        · rename_i nk' ao' hnew
          simp only [Bool.and_eq_true] at hs2
          have hao := aoeq_eq hs2.2
          subst hao
          refine .inr (.inr ⟨hg, hk, b, nk, ao', hb, ?_, (veq_eq hs2.1.2).symm⟩)
          have h1 := (veq_eq hs2.1.1).trans (veq_eq hs2.1.2).symm
          have : nk' = nk := by
            cases nk' <;> cases nk <;> simp [NK.mk] at h1 <;> first | rfl | (rw [h1.1, h1.2])
          rw [hnew, this]
        · cases hs2
      · cases hs2
    · cases hs2

theorem Still.keep {ops : Array Oper} {h h' : Heap} {e e' : Env} {d : Done} (hs : Still P bg ops h e d) (ht : h'.t = h.t) (hg : h'.gl = h.gl) (hl : ∀ t ∈ looks ops d.x.o, lk t e' = lk t e) : Still P bg ops h' e' d := by
  refine ⟨fun t hd => ?_, ?_⟩
  · rw [hl t (List.mem_append_right _ (by rw [hd]; exact List.mem_singleton.2 rfl))]; exact hs.slot t hd
  · have h1 : hz bg h' = hz bg h := by unfold hz; rw [ht, hg]
    have h2 : viewQ e' (d.x.o.looksAt ops) = viewQ e (d.x.o.looksAt ops) := viewQ_congr fun t ht => hl t (List.mem_append_left _ ht)
    rw [h1, h2]; exact hs.at'

theorem quiet_spec {fr : Fr} {ops : Array Oper} {x : Ix} {e e' : Env} {h h' : Heap} {d : Done} (hs : quiet P V bg fr ops x e h = some (d, e', h')) (hi : EI V fr.fn e) :
    d.x = x ∧ StillAt P ops.toList (hz bg h) d (viewQ e (x.o.looksAt ops)) ∧ (∀ t, x.o.dst = some t → lk t e' = some d.v) ∧ (∀ t, x.o.dst ≠ some t → lk t e' = lk t e) ∧ EI V fr.fn e' ∧ (∀ t, x.o.dst = some t → t < fr.nt) ∧ (∀ t v, lk t e' = some v → x.o.dst = some t ∨ lk t e = some v) ∧ h'.t = h.t ∧ h'.gl = h.gl ∧ h.nx ≤ h'.nx ∧
    ∀ b nk ao, d.b = some (b, nk, ao) → b = h.nx ∧ h'.nx = h.nx + 1 ∧ True := by
  have hput : ∀ {v : Value} {e1 : Env}, put V fr x.o v e = some e1 → (∀ t, x.o.dst = some t → lk t e1 = some v) ∧ (∀ t, x.o.dst ≠ some t → lk t e1 = lk t e) ∧ EI V fr.fn e1 ∧ (∀ t, x.o.dst = some t → t < fr.nt) ∧ (∀ t v, lk t e1 = some v → x.o.dst = some t ∨ lk t e = some v) := by
    intro v e1 hp
    unfold put at hp
    split at hp
    · rename_i hd; cases hp; exact ⟨(fun t ht => by rw [hd] at ht; cases ht), fun _ _ => rfl, hi, (fun t ht => by rw [hd] at ht; cases ht), fun t v hv => .inr hv⟩
    · rename_i dd hd
      cases hb : Nat.blt dd fr.nt
      · rw [hb] at hp; cases hp
      · rw [hb] at hp; cases hp
        refine ⟨fun t ht => ?_, fun t ht => ?_, hi.putE _ _, fun t ht => ?_, fun t v hv => ?_⟩
        · rw [hd] at ht; cases ht; rw [lk_putE hi]; simp
        · rw [lk_putE hi]
          have : ¬ dd = t := fun e1 => ht (by rw [hd, e1])
          simp [this]
        · rw [hd] at ht; cases ht; exact Nat.le_of_ble_eq_true hb
        · rw [lk_putE hi] at hv
          by_cases e1 : dd = t
          · subst e1; exact .inl hd
          · simp [e1] at hv; exact .inr hv
  unfold quiet quietAt at hs
  split at hs
  · rename_i hg
    split at hs
    · rename_i e1 hp
      cases hs
      obtain ⟨b1, b2, a1, a2, a3⟩ := hput hp
      exact ⟨rfl, .inl ⟨hg, rfl, rfl⟩, b1, b2, a1, a2, a3, rfl, rfl, Nat.le_refl _, fun b nk ao hb => by cases hb⟩
    · cases hs
  · rename_i hg
    split at hs
    · rename_i hk
      split at hs
      · rename_i v1 h1 hop
        split at hs
        · rename_i e1 hp
          cases hs
          obtain ⟨b1, b2, a1, a2, a3⟩ := hput hp
          exact ⟨rfl, .inr (.inl ⟨hg, hk, rfl, h1, hop⟩), b1, b2, a1, a2, a3, rfl, rfl, Nat.le_refl _, fun b nk ao hb => by cases hb⟩
        · cases hs
      · cases hs
    · rename_i hk
      split at hs
      · rename_i nk1 ao1 hnew
        split at hs
        · rename_i e1 hp
          · cases hs
            obtain ⟨b1, b2, a1, a2, a3⟩ := hput hp
            exact ⟨rfl, .inr (.inr ⟨hg, hk, h.nx, nk1, ao1, rfl, hnew, rfl⟩), b1, b2, a1, a2, a3, rfl, rfl, Nat.le_succ _, fun b nk ao hbb => by cases hbb; exact ⟨rfl, rfl, trivial⟩⟩
        · cases hs
      · cases hs
    · cases hs
  · cases hs

theorem quiets_cons (fr : Fr) (ops : Array Oper) (x : Ix) (l : List Ix) (ds : List Done) (e : Env) (h : Heap) : quiets P V bg fr ops (x :: l) ds e h = match quiet P V bg fr ops x e h with
      | some (d, e', h') => quiets P V bg fr ops l (d :: ds) e' h'
      | none => none := rfl

theorem quiets_spec {fr : Fr} {ops : Array Oper} {dn' : List Done} {e' : Env} {h' : Heap} {T' : Nat} : ∀ (l : List Ix) (dn : List Done) (e : Env) (h : Heap) (T : Nat), quiets P V bg fr ops l dn e h = some (dn', e', h') → takeQ l T = some T' → EI V fr.fn e →
    ∃ new, dn' = new ++ dn ∧ (∀ d ∈ new, d.x ∈ l) ∧ (∀ x ∈ l, ∃ d ∈ new, d.x = x) ∧ (∀ d ∈ new, ∀ d' ∈ new, d.x.i = d'.x.i → d = d') ∧ EI V fr.fn e' ∧ (∀ x ∈ l, ∀ t, x.o.dst = some t → t < fr.nt) ∧
      (∀ t v, lk t e' = some v → (∃ x ∈ l, x.o.dst = some t) ∨ lk t e = some v) ∧ h'.t = h.t ∧ h'.gl = h.gl ∧ h.nx ≤ h'.nx ∧
      (∀ d ∈ new, ∀ b nk ao, d.b = some (b, nk, ao) → h.nx ≤ b ∧ b < h'.nx ∧ True) ∧ (∀ d ∈ new, ∀ d' ∈ new, ∀ b nk ao nk' ao', d.b = some (b, nk, ao) → d'.b = some (b, nk', ao') → d = d') ∧
      (∀ x ∈ l, Nat.testBit T x.i = false ∧ isEff x = false) ∧ (∀ j, Nat.testBit T' j = true ↔ (Nat.testBit T j = true ∨ ∃ x ∈ l, x.i = j)) := by
  intro l
  induction l with
  | nil =>
    intro dn e h T hs ht hi
    cases hs; cases ht
    refine ⟨[], rfl, (fun d hd => nomatch hd), (fun d hd => nomatch hd), (fun d hd => nomatch hd), hi, (fun d hd => nomatch hd), fun t v hv => .inr hv, rfl, rfl, Nat.le_refl _, (fun d hd => nomatch hd), (fun d hd => nomatch hd), (fun d hd => nomatch hd), fun j => ?_⟩
    simp
  | cons x l ih =>
    intro dn e h T hs ht hi
    rw [quiets_cons] at hs
    simp only [takeQ] at ht
    split at ht
    · cases ht
    rename_i hT
    simp only [Bool.or_eq_true, not_or, Bool.not_eq_true] at hT
    split at hs
    case h_2 => cases hs
    rename_i d e1 h1 hq
    obtain ⟨q1, _, _, _, q2, q3, q4, q5, q6, q7, q8⟩ := quiet_spec hq hi
    obtain ⟨new, n1, n2, n3, n4, n5, n6, n7, n8, n9, n10, n11, n12, n13, n14⟩ := ih (d :: dn) e1 h1 _ hs ht q2
    have hne : ∀ d' ∈ new, d'.x.i ≠ x.i := by
      intro d' hd' he
      have := (n13 d'.x (n2 d' hd')).1
      rw [testBit_set, he] at this
      simp at this
    have hb1 : ∀ d' ∈ new, ∀ b nk ao nk' ao', d'.b = some (b, nk, ao) → d.b = some (b, nk', ao') → False := by
      intro d' hd' b nk ao nk' ao' g1 g2
      have := (n11 d' hd' b nk ao g1).1
      have := q8 b nk' ao' g2
      omega
    refine ⟨new ++ [d], by simp [n1], ?_, ?_, ?_, n5, ?_, ?_, n8.trans q5, n9.trans q6, Nat.le_trans q7 n10, ?_, ?_, ?_, ?_⟩
    · intro d' hd'
      rcases List.mem_append.1 hd' with g | g
      · exact List.mem_cons_of_mem _ (n2 d' g)
      · simp at g; subst g; rw [q1]; exact List.mem_cons_self
    · intro y hy
      rcases List.mem_cons.1 hy with g | g
      · subst g; exact ⟨d, by simp, q1⟩
      · obtain ⟨d', g1, g2⟩ := n3 y g
        exact ⟨d', List.mem_append_left _ g1, g2⟩
    · intro d1 hd1 d2 hd2 heq
      rcases List.mem_append.1 hd1 with g | g <;> rcases List.mem_append.1 hd2 with g' | g'
      · exact n4 d1 g d2 g' heq
      · simp at g'; subst g'; rw [q1] at heq; exact absurd heq (hne d1 g)
      · simp at g; subst g; rw [q1] at heq; exact absurd heq.symm (hne d2 g')
      · simp at g g'; rw [g, g']
    · intro y hy
      rcases List.mem_cons.1 hy with g | g
      · subst g; exact q3
      · exact n6 y g
    · intro t v hv
      rcases n7 t v hv with ⟨y, g1, g2⟩ | g
      · exact .inl ⟨y, List.mem_cons_of_mem _ g1, g2⟩
      · rcases q4 t v g with g | g
        · exact .inl ⟨x, List.mem_cons_self, g⟩
        · exact .inr g
    · intro d1 hd1 b nk ao hb
      rcases List.mem_append.1 hd1 with g | g
      · have := n11 d1 g b nk ao hb
        exact ⟨by omega, this.2.1, this.2.2⟩
      · simp at g; subst g
        have := q8 b nk ao hb
        exact ⟨by omega, by omega, this.2.2⟩
    · intro d1 hd1 d2 hd2 b nk ao nk' ao' hb hb'
      rcases List.mem_append.1 hd1 with g | g <;> rcases List.mem_append.1 hd2 with g' | g'
      · exact n12 d1 g d2 g' b nk ao nk' ao' hb hb'
      · simp at g'; subst g'; exact (hb1 d1 g b nk ao nk' ao' hb hb').elim
      · simp at g; subst g; exact (hb1 d2 g' b nk' ao' nk ao hb' hb).elim
      · simp at g g'; rw [g, g']
    · intro y hy
      rcases List.mem_cons.1 hy with g | g
      · subst g; exact hT
      · have := n13 y g
        rw [testBit_set] at this
        simp only [Bool.or_eq_false_iff] at this
        exact ⟨this.1.1, this.2⟩
    · intro j
      rw [n14 j, testBit_set]
      simp only [Bool.or_eq_true, decide_eq_true_eq, List.mem_cons, exists_eq_or_imp]
      constructor
      · rintro ((g | g) | g)
        · exact .inl g
        · exact .inr (.inl g)
        · exact .inr (.inr g)
      · rintro (g | g | g)
        · exact .inl (.inl g)
        · exact .inl (.inr g)
        · exact .inr g

theorem quiets_still {fr : Fr} {ops : Array Oper} {dn' : List Done} {e' : Env} {h' : Heap} : ∀ (l : List Ix) (dn : List Done) (e : Env) (h : Heap), quiets P V bg fr ops l dn e h = some (dn', e', h') → qsOk ops l = true → EI V fr.fn e →
    h'.t = h.t ∧ h'.gl = h.gl ∧ (∀ t, (∀ y ∈ l, y.o.dst ≠ some t) → lk t e' = lk t e) ∧ ∀ d ∈ dn', d ∈ dn ∨ Still P bg ops h' e' d := by
  intro l
  induction l with
  | nil => intro dn e h hs _ _; cases hs; exact ⟨rfl, rfl, fun _ _ => rfl, fun d hd => .inl hd⟩
  | cons x l ih =>
    intro dn e h hs hok hi
    rw [quiets_cons] at hs
    simp only [qsOk, Bool.and_eq_true] at hok
    obtain ⟨⟨o1, o2⟩, o3⟩ := hok
    split at hs
    case h_2 => cases hs
    rename_i d e1 h1 hq
    obtain ⟨q1, q0, qs, qo, q2, q3, q4, q5, q6, q7, q8⟩ := quiet_spec hq hi
    obtain ⟨i1, i2, i3, i4⟩ := ih (d :: dn) e1 h1 hs o3 q2
    refine ⟨i1.trans q5, i2.trans q6, fun t ht => ?_, fun d' hd' => ?_⟩
    · rw [i3 t fun y hy => ht y (List.mem_cons_of_mem _ hy), qo t (ht x List.mem_cons_self)]
    · rcases i4 d' hd' with g | g
      · rcases List.mem_cons.1 g with g | g
        · subst g
          refine .inr ?_
          have hself : Still P bg ops h1 e1 d' := by
            refine ⟨fun t ht => qs t (by rw [← q1]; exact ht), ?_⟩
            have hz1 : hz bg h1 = hz bg h := by unfold hz; rw [q5, q6]
            have hv : viewQ e1 (d'.x.o.looksAt ops) = viewQ e (d'.x.o.looksAt ops) := viewQ_congr fun t ht => qo t fun hd => by
              rw [hd] at o1
              simp only [Bool.not_eq_true'] at o1
              rw [q1] at ht
              rw [List.contains_iff_mem.2 ht] at o1; cases o1
            rw [hz1, hv, q1]; exact q0
          refine hself.keep i1 i2 fun t ht => i3 t fun y hy hd => ?_
          have h2 := List.all_eq_true.1 o2 y hy
          rw [hd] at h2
          simp only [Bool.not_eq_true'] at h2
          rw [q1] at ht
          rw [List.contains_iff_mem.2 ht] at h2; cases h2
        · exact .inl g
      · exact .inr g

/-! ### laying the new blocks -/
theorem addAll_cons (d : Done) (l : List Done) (h : Heap) : addAll (d :: l) h = match d.b with | some (b, _, ao) => (addAll l h).set b ao | none => addAll l h := rfl
theorem addAll_nx (l : List Done) (h : Heap) : (addAll l h).nx = h.nx ∧ (addAll l h).gl = h.gl := by
  induction l with
  | nil => exact ⟨rfl, rfl⟩
  | cons d l ih => rw [addAll_cons]; split <;> exact ih
theorem addAll_get {l : List Done} {h : Heap} {b : Nat} {o : AO} (hg : (addAll l h).get b = some o) : (∃ d ∈ l, ∃ nk, d.b = some (b, nk, o)) ∨ (h.get b = some o ∧ ∀ d ∈ l, ∀ nk ao, d.b ≠ some (b, nk, ao)) := by
  induction l with
  | nil => exact .inr ⟨hg, fun d hd => nomatch hd⟩
  | cons d l ih =>
    rw [addAll_cons] at hg
    split at hg
    · rename_i b1 nk1 ao1 hb
      by_cases e : b = b1
      · subst e
        have : ((addAll l h).set b ao1).get b = some ao1 := by unfold Heap.get Heap.set; exact tget_tset_same _ b (some ao1)
        rw [this] at hg; cases hg
        exact .inl ⟨d, List.mem_cons_self, nk1, hb⟩
      · rw [Heap.get_set_other _ e] at hg
        rcases ih hg with ⟨d', g1, nk, g2⟩ | ⟨g1, g2⟩
        · exact .inl ⟨d', List.mem_cons_of_mem _ g1, nk, g2⟩
        · refine .inr ⟨g1, fun d' hd' nk ao => ?_⟩
          rcases List.mem_cons.1 hd' with g | g
          · subst g; rw [hb]; intro hq; cases hq; exact e rfl
          · exact g2 d' g nk ao
    · rename_i hb
      rcases ih hg with ⟨d', g1, nk, g2⟩ | ⟨g1, g2⟩
      · exact .inl ⟨d', List.mem_cons_of_mem _ g1, nk, g2⟩
      · refine .inr ⟨g1, fun d' hd' nk ao => ?_⟩
        rcases List.mem_cons.1 hd' with g | g
        · subst g; rw [hb]; intro hq; cases hq
        · exact g2 d' g nk ao
theorem addAll_other {l : List Done} {h : Heap} {b : Nat} (hn : ∀ d ∈ l, ∀ nk ao, d.b ≠ some (b, nk, ao)) : (addAll l h).get b = h.get b := by
  induction l with
  | nil => rfl
  | cons d l ih =>
    rw [addAll_cons]
    have := ih fun d' hd' => hn d' (List.mem_cons_of_mem _ hd')
    split
    · rename_i b1 nk1 ao1 hb
      have hne : b ≠ b1 := fun e => by subst e; exact hn d List.mem_cons_self nk1 ao1 hb
      rw [Heap.get_set_other _ hne]; exact this
    · exact this
theorem addAll_same {l : List Done} {h : Heap} (hu : ∀ d ∈ l, ∀ d' ∈ l, ∀ b nk ao nk' ao', d.b = some (b, nk, ao) → d'.b = some (b, nk', ao') → d = d') {d : Done} {b : Nat} {nk : NK} {ao : AO} (hd : d ∈ l) (hb : d.b = some (b, nk, ao)) (_hlt : True) : (addAll l h).get b = some ao := by
  induction l with
  | nil => cases hd
  | cons d1 l ih =>
    rw [addAll_cons]
    split
    · rename_i b1 nk1 ao1 hb1
      by_cases e : b = b1
      · subst e
        have := hu d hd d1 List.mem_cons_self b nk ao nk1 ao1 hb hb1
        subst this
        rw [hb] at hb1; cases hb1
        unfold Heap.get Heap.set; exact tget_tset_same _ b (some ao)
      · rw [Heap.get_set_other _ e]
        rcases List.mem_cons.1 hd with g | g
        · subst g; rw [hb] at hb1; cases hb1; exact absurd rfl e
        · exact ih (fun x hx y hy => hu x (List.mem_cons_of_mem _ hx) y (List.mem_cons_of_mem _ hy)) g
    · rename_i hb1
      rcases List.mem_cons.1 hd with g | g
      · subst g; rw [hb] at hb1; cases hb1
      · exact ih (fun x hx y hy => hu x (List.mem_cons_of_mem _ hx) y (List.mem_cons_of_mem _ hy)) g

end Go.Dx
