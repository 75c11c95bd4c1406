/- DxM: operations of the abstract run, part 10: maps. -/
import Derived.Test.YtcjmpdpgfmjcgaaGreatDoorDxL
namespace Go.Dx
variable {P : Program} {ι : Iota}

theorem MER.length {l l' : List MapEntry} (h : MER ι l l') : l'.length = l.length := by
  induction h with
  | nil => rfl
  | cons _ _ _ _ ih => simp [ih]
theorem MER.get {l l' : List MapEntry} (h : MER ι l l') {j : Nat} {e : MapEntry} (he : l[j]? = some e) : ∃ e', l'[j]? = some e' ∧ e'.key = e.key ∧ VR ι e.val e'.val ∧ e'.born = e.born := by
  induction h generalizing j with
  | nil => simp at he
  | cons a b c _ ih =>
    cases j with
    | zero => simp at he; subst he; exact ⟨_, rfl, a, b, c⟩
    | succ j => simp at he; simpa using ih he
theorem MER.setAt {l l' : List MapEntry} (h : MER ι l l') {x x' : MapEntry} (hk : x'.key = x.key) (hv : VR ι x.val x'.val) (hb : x'.born = x.born) (j : Nat) : MER ι (l.set j x) (l'.set j x') := by
  induction h generalizing j with
  | nil => exact .nil
  | cons a b c d ih =>
    cases j with
    | zero => exact .cons hk hv hb d
    | succ j => exact .cons a b c (ih j)
theorem MER.snoc {l l' : List MapEntry} (h : MER ι l l') {x x' : MapEntry} (hk : x'.key = x.key) (hv : VR ι x.val x'.val) (hb : x'.born = x.born) : MER ι (l ++ [x]) (l' ++ [x']) := by
  induction h with
  | nil => exact .cons hk hv hb .nil
  | cons a b c _ ih => exact .cons a b c ih
theorem MER.erase {l l' : List MapEntry} (h : MER ι l l') (j : Nat) : MER ι (l.eraseIdx j) (l'.eraseIdx j) := by
  induction h generalizing j with
  | nil => exact .nil
  | cons a b c d ih =>
    cases j with
    | zero => exact d
    | succ j => exact .cons a b c (ih j)

theorem modify_toList (a : Array MapEntry) (j : Nat) (f : MapEntry → MapEntry) {e : MapEntry} (he : a.toList[j]? = some e) : (a.modify j f).toList = a.toList.set j (f e) := by
  have hlt : j < a.size := by have := (List.getElem?_eq_some_iff.1 he).1; simpa using this
  have hge : a[j] = e := by have := (List.getElem?_eq_some_iff.1 he).2; simpa using this
  apply List.ext_getElem
  · simp
  · intro i h1 h2
    simp only [Array.getElem_toList, Array.getElem_modify, List.getElem_set]
    by_cases hij : j = i
    · subst hij; simp [hge]
    · simp [hij]

theorem HR.mapAt {h : Heap} {w : World} (hr : HR ι h w.heap) {b clock : Nat} {es : List MapEntry} {bi : BI} (hg : h.get b = some (.map es clock)) (hi : ι b = some bi) :
    ∃ es' : Array MapEntry, w.heap[bi.blk]? = some (.map es' clock) ∧ MER ι es es'.toList := by
  obtain ⟨bi', o', i1, hw, ho⟩ := hr.obj b _ hg
  rw [hi] at i1; cases i1
  cases o' <;> simp only [OR] at ho
  obtain ⟨rfl, h2⟩ := ho
  exact ⟨_, hw, h2⟩

theorem run_getMap {w : World} {r clock : Nat} {es : Array MapEntry} (h : w.heap[r]? = some (.map es clock)) : (getObj r).run P w = .ok (.map es clock) w := by simp [getObj, Sem.run, h]
theorem run_setMap {w : World} {r clock : Nat} {es : Array MapEntry} (h : w.heap[r]? = some (.map es clock)) (o : Obj) : (setObj r o).run P w = .ok () { w with heap := w.heap.setIfInBounds r o } := by simp [setObj, Sem.run, h]

/-- The entries of a map, nil or not. -/
noncomputable def entsOf (m : Value) (h : Heap) : Option (List MapEntry) :=
  match m with
  | .map none => some []
  | .map (some b) => match h.get b with
    | some (.map es _) => some es
    | _ => none
  | _ => none

noncomputable def alookup (P : Program) (t : TypeId) (m k : Value) (ok : Bool) (h : Heap) : Option Value :=
  match P.underlying t with
  | some (.map key elem) =>
    match kshape P key, zeroOf P elem, entsOf m h with
    | some ks, some z, some es =>
      @Bool.casesOn (fun _ => Option Value) (flat k) none
      (@Bool.casesOn (fun _ => Option Value) (okK ks k) none
        (match fk ks k es 0 with
         | some none => some (@Bool.casesOn (fun _ => Value) ok z (.tuple ⟨[z, .bool false]⟩))
         | some (some j) => match nth es j with
           | some e => some (@Bool.casesOn (fun _ => Value) ok e.val (.tuple ⟨[e.val, .bool true]⟩))
           | none => none
         | none => none))
    | _, _, _ => none
  | _ => none

theorem alookup_sound {h : Heap} {w : World} (hr : HR ι h w.heap) {t : TypeId} {m m' k k' v : Value} {ok : Bool} (hm : VR ι m m') (hk : VR ι k k') (hs : alookup P t m k ok h = some v) :
    ∃ v', (Instr.lookup t m' k' ok).run P w = .ok v' w ∧ VR ι v v' := by
  unfold alookup at hs
  split at hs
  case h_2 => cases hs
  rename_i key elem hu
  split at hs
  case h_2 => cases hs
  rename_i ks z es hks hz hes
  cases c1 : flat k
  · rw [c1] at hs; cases hs
  rw [c1] at hs
  cases c2 : okK ks k
  · rw [c2] at hs; cases hs
  rw [c2] at hs
  simp only at hs
  have hkk := hk.flat_eq c1
  subst hkk
  obtain ⟨hf, hzr⟩ := zeroOf_eq hz
  -- the map's entries
  obtain ⟨es', hmer, hmm⟩ : ∃ es' : Array MapEntry, MER ι es es'.toList ∧ ((m' = .map none ∧ es' = #[]) ∨ ∃ r clock, m' = .map (some r) ∧ w.heap[r]? = some (.map es' clock)) := by
    unfold entsOf at hes
    split at hes
    · cases hes; cases hm
      exact ⟨#[], .nil, .inl ⟨rfl, rfl⟩⟩
    · split at hes
      · rename_i b es1 clock hg
        cases hes
        cases hm with
        | @map _ bi hb =>
          obtain ⟨es', hw, hme⟩ := hr.mapAt hg hb
          exact ⟨es', hme, .inr ⟨_, _, rfl, hw⟩⟩
      · cases hes
    · cases hes
  have hrun : ∀ r, fk ks k' es 0 = some r → (Instr.lookup t m' k' ok).run P w = (match fres es'.toList r with
        | some (_, v) => .ok (if ok = true then .tuple #[v, .bool true] else v) w
        | none => .ok (if ok = true then .tuple #[z, .bool false] else z) w) := by
    intro r hfk
    have hfind := (run_findKey (P := P) hks hmer hfk w).1
    rcases hmm with ⟨rfl, rfl⟩ | ⟨r', clock, rfl, hw⟩
    · simp only [Instr.lookup, Sem.run_bind, run_underlying hu, Result.andThen_ok, Sem.run_pure, okK_sound hks c2, hfind]
      cases fres (#[] : Array MapEntry).toList r with
      | none => simp [hzr]
      | some p => obtain ⟨_, v⟩ := p; simp
    · simp only [Instr.lookup, Sem.run_bind, run_underlying hu, Result.andThen_ok, Sem.run_pure, run_getMap hw, okK_sound hks c2, hfind]
      cases fres es'.toList r with
      | none => simp [hzr]
      | some p => obtain ⟨_, v⟩ := p; simp
  split at hs
  · rename_i hfk
    cases hs
    rw [hrun none hfk]
    cases ok
    · exact ⟨z, by simp [fres, hzr], VR.of_flat ι hf⟩
    · exact ⟨.tuple #[z, .bool false], by simp [fres, hzr], .tup (.cons (VR.of_flat ι hf) (.cons (.bool _) .nil))⟩
  · rename_i j hfk
    split at hs
    · rename_i e he
      cases hs
      rw [nth_eq] at he
      obtain ⟨e', g1, g2, g3, g4⟩ := hmer.get he
      rw [hrun (some j) hfk]
      cases ok
      · exact ⟨e'.val, by simp [fres, g1], g3⟩
      · exact ⟨.tuple #[e'.val, .bool true], by simp [fres, g1], .tup (.cons g3 (.cons (.bool _) .nil))⟩
    · cases hs
  · cases hs

noncomputable def amapUpdate (P : Program) (t : TypeId) (m k v : Value) (h : Heap) : Option Heap :=
  match P.underlying t, m with
  | some (.map key _), .map (some b) =>
    match kshape P key, h.get b with
    | some ks, some (.map es clock) =>
      @Bool.casesOn (fun _ => Option Heap) (flat k) none
      (@Bool.casesOn (fun _ => Option Heap) (okK ks k) none
        (match fk ks k es 0 with
         | some none => some (h.set b (.map (es ++ [⟨k, v, clock⟩]) (Nat.succ clock)))
         | some (some j) => match nth es j with
           | some e => @Bool.casesOn (fun _ => Option Heap) (Instr.sameBits 10000 e.key k) none (some (h.set b (.map (es.set j ⟨k, v, e.born⟩) clock)))
           | none => none
         | none => none))
    | _, _ => none
  | _, _ => none

theorem amapUpdate_sound {h h' : Heap} {w : World} (hr : HR ι h w.heap) {t : TypeId} {m m' k k' v v' : Value} (hm : VR ι m m') (hk : VR ι k k') (hv : VR ι v v') (hs : amapUpdate P t m k v h = some h') :
    ∃ w', (Instr.mapUpdate t m' k' v').run P w = .ok () w' ∧ HR ι h' w'.heap ∧ Adv ι h w ι h' w' := by
  unfold amapUpdate at hs
  split at hs
  case h_2 => cases hs
  rename_i key elem b hu
  split at hs
  case h_2 => cases hs
  rename_i ks es clock hks hg
  cases c1 : flat k
  · rw [c1] at hs; cases hs
  rw [c1] at hs
  cases c2 : okK ks k
  · rw [c2] at hs; cases hs
  rw [c2] at hs
  simp only at hs
  have hkk := hk.flat_eq c1
  subst hkk
  cases hm with
  | @map _ bi hb =>
  obtain ⟨es', hw, hmer⟩ := hr.mapAt hg hb
  split at hs
  · rename_i hfk
    cases hs
    have hset := hr.set (o2 := .map (es ++ [⟨k', v, clock⟩]) (Nat.succ clock)) (o2' := .map (es'.push ⟨k', v', clock⟩) (clock + 1)) hg hb (by
      simp only [OR]
      exact ⟨trivial, by simpa using hmer.snoc (x := ⟨k', v, clock⟩) (x' := ⟨k', v', clock⟩) rfl hv rfl⟩)
    refine ⟨{ w with heap := w.heap.setIfInBounds bi.blk (.map (es'.push ⟨k', v', clock⟩) (clock + 1)) }, ?_, hset.1, hset.2⟩
    simp only [Instr.mapUpdate, Sem.run_bind, run_underlying hu, Result.andThen_ok, run_getMap hw, okK_sound hks c2, (run_findKey (P := P) hks hmer hfk w).1, fres, run_setMap hw]
  · rename_i j hfk
    split at hs
    · rename_i e he
      cases c3 : Instr.sameBits 10000 e.key k'
      · rw [c3] at hs; cases hs
      rw [c3] at hs
      cases hs
      rw [nth_eq] at he
      obtain ⟨e', g1, g2, g3, g4⟩ := hmer.get he
      have g1' : es'[j]? = some e' := by simpa using g1
      have hset := hr.set (o2 := .map (es.set j ⟨k', v, e.born⟩) clock) (o2' := .map (es'.modify j fun x => { x with key := k', val := v' }) clock) hg hb (by
        simp only [OR]
        refine ⟨trivial, ?_⟩
        rw [modify_toList es' j _ g1]
        exact hmer.setAt (x := ⟨k', v, e.born⟩) (x' := { e' with key := k', val := v' }) rfl hv g4 j)
      refine ⟨{ w with heap := w.heap.setIfInBounds bi.blk (.map (es'.modify j fun x => { x with key := k', val := v' }) clock) }, ?_, hset.1, hset.2⟩
      simp only [Instr.mapUpdate, Sem.run_bind, run_underlying hu, Result.andThen_ok, run_getMap hw, okK_sound hks c2, (run_findKey (P := P) hks hmer hfk w).1, fres, g1, Option.map_some, Instr.keyThatStays, g1',
        Option.getD_some, g2, c3, if_true, Sem.run_pure, run_setMap hw]
    · cases hs
  · cases hs

noncomputable def amapEntry (P : Program) (t : TypeId) (m k : Value) (h : Heap) : AR :=
  match P.underlying t, m with
  | some (.map key elem), .map (some b) =>
    match kshape P key, h.get b, zeroOf P elem with
    | some ks, some (.map es clock), some z =>
      @Bool.casesOn (fun _ => AR) (flat k) .no
      (@Bool.casesOn (fun _ => AR) (okK ks k) .no
        (match fk ks k es 0 with
         | some none => .ok (.tuple ⟨[z, .int .i64 (Int.ofNat clock)]⟩) (h.set b (.map (es ++ [⟨k, z, clock⟩]) (Nat.succ clock)))
         | some (some j) => match nth es j with
           | some e => @Bool.casesOn (fun _ => AR) (Instr.sameBits 10000 e.key k) .no (.ok (.tuple ⟨[e.val, .int .i64 (Int.ofNat e.born)]⟩) (h.set b (.map (es.set j ⟨k, e.val, e.born⟩) clock)))
           | none => .no
         | none => .no))
    | _, _, _ => .no
  | _, _ => .no

theorem amapEntry_sound {h h' : Heap} {w : World} (hr : HR ι h w.heap) {t : TypeId} {m m' k k' v : Value} (hm : VR ι m m') (hk : VR ι k k') (hs : amapEntry P t m k h = .ok v h') :
    ∃ v' w', (Instr.mapEntry t m' k').run P w = .ok v' w' ∧ VR ι v v' ∧ HR ι h' w'.heap ∧ Adv ι h w ι h' w' := by
  unfold amapEntry at hs
  split at hs
  case h_2 => cases hs
  rename_i key elem b hu
  split at hs
  case h_2 => cases hs
  rename_i ks es clock z hks hg hz
  cases c1 : flat k
  · rw [c1] at hs; cases hs
  rw [c1] at hs
  cases c2 : okK ks k
  · rw [c2] at hs; cases hs
  rw [c2] at hs
  simp only at hs
  have hkk := hk.flat_eq c1
  subst hkk
  obtain ⟨hf, hzr⟩ := zeroOf_eq hz
  cases hm with
  | @map _ bi hb =>
  obtain ⟨es', hw, hmer⟩ := hr.mapAt hg hb
  split at hs
  · rename_i hfk
    simp only [AR.ok.injEq] at hs
    obtain ⟨rfl, rfl⟩ := hs
    have hset := hr.set (o2 := .map (es ++ [⟨k', z, clock⟩]) (Nat.succ clock)) (o2' := .map (es'.push ⟨k', z, clock⟩) (clock + 1)) hg hb (by
      simp only [OR]
      exact ⟨trivial, by simpa using hmer.snoc (x := ⟨k', z, clock⟩) (x' := ⟨k', z, clock⟩) rfl (VR.of_flat ι hf) rfl⟩)
    refine ⟨.tuple #[z, goInt clock], { w with heap := w.heap.setIfInBounds bi.blk (.map (es'.push ⟨k', z, clock⟩) (clock + 1)) }, ?_, .tup (.cons (VR.of_flat ι hf) (.cons (.int _ _) .nil)), hset.1, hset.2⟩
    simp only [Instr.mapEntry, Sem.run_bind, run_underlying hu, Result.andThen_ok, run_getMap hw, okK_sound hks c2, (run_findKey (P := P) hks hmer hfk w).1, fres, hzr, run_setMap hw, Sem.run_pure]
  · rename_i j hfk
    split at hs
    · rename_i e he
      cases c3 : Instr.sameBits 10000 e.key k'
      · rw [c3] at hs; cases hs
      rw [c3] at hs
      simp only [AR.ok.injEq] at hs
      obtain ⟨rfl, rfl⟩ := hs
      rw [nth_eq] at he
      obtain ⟨e', g1, g2, g3, g4⟩ := hmer.get he
      have g1' : es'[j]? = some e' := by simpa using g1
      have hset := hr.set (o2 := .map (es.set j ⟨k', e.val, e.born⟩) clock) (o2' := .map (es'.modify j fun x => { x with key := k' }) clock) hg hb (by
        simp only [OR]
        refine ⟨trivial, ?_⟩
        rw [modify_toList es' j _ g1]
        exact hmer.setAt (x := ⟨k', e.val, e.born⟩) (x' := { e' with key := k' }) rfl g3 g4 j)
      refine ⟨.tuple #[e'.val, goInt e'.born], { w with heap := w.heap.setIfInBounds bi.blk (.map (es'.modify j fun x => { x with key := k' }) clock) }, ?_, ?_, hset.1, hset.2⟩
      · simp only [Instr.mapEntry, Sem.run_bind, run_underlying hu, Result.andThen_ok, run_getMap hw, okK_sound hks c2, (run_findKey (P := P) hks hmer hfk w).1, fres, g1, Option.map_some, Instr.keyThatStays, g1',
          Option.getD_some, g2, c3, if_true, Sem.run_pure, run_setMap hw]
      · rw [g4]; exact .tup (.cons g3 (.cons (.int _ _) .nil))
    · cases hs
  · cases hs

/-- The place of the entry with a stamp. -/
noncomputable def bornAt (n : Nat) (es : List MapEntry) : Option Nat := es.findIdx? fun e => (e.born : Int) == (n : Int)

noncomputable def aentryStore (m stamp v : Value) (h : Heap) : Option Heap :=
  match m, natOf stamp with
  | .map (some b), some n =>
    match h.get b with
    | some (.map es clock) =>
      match bornAt n es with
      | some j => match nth es j with
        | some e => some (h.set b (.map (es.set j ⟨e.key, v, e.born⟩) clock))
        | none => none
      | none => none
    | _ => none
  | _, _ => none

theorem MER.bornAt {l l' : List MapEntry} (h : MER ι l l') (n : Nat) : l'.findIdx? (fun e => (e.born : Int) == (n : Int)) = Dx.bornAt n l := by
  unfold Dx.bornAt
  induction h with
  | nil => rfl
  | cons a b c d ih => simp only [List.findIdx?_cons, c, ih]

theorem aentryStore_sound {h h' : Heap} {w : World} (hr : HR ι h w.heap) {t : TypeId} {m m' st st' v v' : Value} (hm : VR ι m m') (hst : VR ι st st') (hv : VR ι v v') (hs : aentryStore m st v h = some h') :
    ∃ w', (Instr.entryStore t m' st' v').run P w = .ok () w' ∧ HR ι h' w'.heap ∧ Adv ι h w ι h' w' := by
  unfold aentryStore at hs
  split at hs
  case h_2 => cases hs
  rename_i b n hn
  obtain ⟨k, rfl⟩ := natOf_eq hn
  cases hst
  split at hs
  case h_2 => cases hs
  rename_i es clock hg
  split at hs
  case h_2 => cases hs
  rename_i j hj
  split at hs
  case h_2 => cases hs
  rename_i e he
  cases hs
  rw [nth_eq] at he
  cases hm with
  | @map _ bi hb =>
  obtain ⟨es', hw, hmer⟩ := hr.mapAt hg hb
  obtain ⟨e', g1, g2, g3, g4⟩ := hmer.get he
  have hidx : es'.findIdx? (fun e => (e.born : Int) == (n : Int)) = some j := by
    rw [← hj, ← hmer.bornAt n]
    obtain ⟨l⟩ := es'
    exact List.findIdx?_toArray _ _
  have hset := hr.set (o2 := .map (es.set j ⟨e.key, v, e.born⟩) clock) (o2' := .map (es'.modify j fun x => { x with val := v' }) clock) hg hb (by
    simp only [OR]
    refine ⟨trivial, ?_⟩
    rw [modify_toList es' j _ g1]
    exact hmer.setAt (x := ⟨e.key, v, e.born⟩) (x' := { e' with val := v' }) g2 hv g4 j)
  refine ⟨{ w with heap := w.heap.setIfInBounds bi.blk (.map (es'.modify j fun x => { x with val := v' }) clock) }, ?_, hset.1, hset.2⟩
  simp only [Instr.entryStore, Sem.run_bind, run_getMap hw, Result.andThen_ok, asInt, asIntOf, Sem.run_pure, Int.ofNat_eq_natCast, hidx, run_setMap hw]

noncomputable def adelete (P : Program) (t : TypeId) (m k : Value) (h : Heap) : Option Heap :=
  match P.underlying t, m with
  | some (.map key _), .map (some b) =>
    match kshape P key, h.get b with
    | some ks, some (.map es clock) =>
      @Bool.casesOn (fun _ => Option Heap) (flat k) none
      (@Bool.casesOn (fun _ => Option Heap) (okK ks k) none
        (match fk ks k es 0 with
         | some none => some h
         | some (some j) => some (h.set b (.map (es.eraseIdx j) clock))
         | none => none))
    | _, _ => none
  | _, _ => none

theorem adelete_sound {h h' : Heap} {w : World} (hr : HR ι h w.heap) {argTypes : Array TypeId} {args' : Array Value} {t ty : TypeId} {m m' k k' : Value} (h0 : argTypes[0]? = some t) (a0 : args'[0]? = some m') (a1 : args'[1]? = some k')
    (hm : VR ι m m') (hk : VR ι k k') (hs : adelete P t m k h = some h') :
    ∃ w', (Builtin.delete_ argTypes ty args').run P w = .ok (.tuple #[]) w' ∧ HR ι h' w'.heap ∧ Adv ι h w ι h' w' := by
  unfold adelete at hs
  split at hs
  case h_2 => cases hs
  rename_i key elem b hu
  split at hs
  case h_2 => cases hs
  rename_i ks es clock hks hg
  cases c1 : flat k
  · rw [c1] at hs; cases hs
  rw [c1] at hs
  cases c2 : okK ks k
  · rw [c2] at hs; cases hs
  rw [c2] at hs
  simp only at hs
  have hkk := hk.flat_eq c1
  subst hkk
  cases hm with
  | @map _ bi hb =>
  obtain ⟨es', hw, hmer⟩ := hr.mapAt hg hb
  split at hs
  · rename_i hfk
    cases hs
    have hset := hr.set (o2 := .map es clock) (o2' := .map es' clock) hg hb (by simp only [OR]; exact ⟨trivial, hmer⟩)
    refine ⟨{ w with heap := w.heap.setIfInBounds bi.blk (.map es' clock) }, ?_, ?_, ?_⟩
    · simp only [Builtin.delete_, h0, a0, a1, Sem.run_bind, run_underlying hu, Result.andThen_ok, run_getMap hw, okK_sound hks c2, (run_findKey (P := P) hks hmer hfk w).1, fres, run_setMap hw, Sem.run_pure]
    · have hself : w.heap.setIfInBounds bi.blk (.map es' clock) = w.heap := by
        have hlt := (Array.getElem?_eq_some_iff.1 hw).1
        have hge := (Array.getElem?_eq_some_iff.1 hw).2
        apply Array.ext
        · simp
        · intro i h1 h2
          rw [Array.getElem_setIfInBounds h2]
          by_cases e : bi.blk = i
          · subst e; simp [hge]
          · simp [e]
      show HR ι h (w.heap.setIfInBounds bi.blk (.map es' clock))
      rw [hself]; exact hr
    · have hself : w.heap.setIfInBounds bi.blk (.map es' clock) = w.heap := by
        have hge := (Array.getElem?_eq_some_iff.1 hw).2
        apply Array.ext
        · simp
        · intro i h1 h2
          rw [Array.getElem_setIfInBounds h2]
          by_cases e : bi.blk = i
          · subst e; simp [hge]
          · simp [e]
      show Adv ι h w ι h { w with heap := w.heap.setIfInBounds bi.blk (.map es' clock) }
      rw [hself]; exact .refl _ _ _
  · rename_i j hfk
    cases hs
    have hset := hr.set (o2 := .map (es.eraseIdx j) clock) (o2' := .map (es'.eraseIdxIfInBounds j) clock) hg hb (by
      simp only [OR]; exact ⟨trivial, by simpa using hmer.erase j⟩)
    refine ⟨{ w with heap := w.heap.setIfInBounds bi.blk (.map (es'.eraseIdxIfInBounds j) clock) }, ?_, hset.1, hset.2⟩
    have hjl := (run_findKey (P := P) hks hmer hfk w).2 j rfl
    obtain ⟨e', g1⟩ : ∃ e', es'.toList[j]? = some e' := ⟨_, List.getElem?_eq_getElem (by rw [hmer.length]; exact hjl)⟩
    simp only [Builtin.delete_, h0, a0, a1, Sem.run_bind, run_underlying hu, Result.andThen_ok, run_getMap hw, okK_sound hks c2, (run_findKey (P := P) hks hmer hfk w).1, fres, g1, Option.map_some, run_setMap hw, Sem.run_pure]
  · cases hs

end Go.Dx
