/- DwO: the logic, part 15: leaving behind loops over functions, deferred calls beneath. -/
import Derived.ChangeArms
import Derived.RowKit3
import Derived.WalkKit
import Derived.ProofKit
import Derived.OpenShut
import Derived.Deep.DeepHandedRow
import Derived.ReadAgain
import Derived.ChangeStays
import Derived.Test.YtcjmpdpgfmjcgaaGreatDoorMG2
import Derived.Test.YtcjmpdpgfmjcgaaGreatDoorMG1
namespace Go.Dw
open Go.Dx
variable {P : Program} {fn : Func} {m : Mem} {ds : List ADef} {rc : RC} {R : VS → Prop}
theorem LvR_coll {h : Heap} {r : Nat} (hg : h.get r = some .defd) (hL : LvR P fn m ds rc (h.del r) R) : LvR P fn m (.coll r :: ds) rc h R := by
  refine ⟨fun e tmps ι0 h0 w0 ι w l u hs hrc hr he hd hc ha => ?_⟩
  have hu : u ≠ .run := by cases hc <;> simp
  cases hd with
  | coll hi hd =>
    rename_i bi l
    refine ⟨hu, .inl ?_⟩
    obtain ⟨bi', o', i1, i2, i3⟩ := hr.obj _ _ hg
    rw [hi] at i1; cases i1
    have ho : o' = .deferred (some []) := by
      cases o' with
      | deferred x => cases x with
        | none => simp only [OR] at i3
        | some l => cases l with
          | nil => rfl
          | cons => simp only [OR] at i3
      | _ => simp only [OR] at i3
    subst ho
    obtain ⟨hr2, ad2⟩ := hr.drop hg hi (.deferred none) trivial
    refine ⟨bi.blk, { w with heap := w.heap.setIfInBounds bi.blk (.deferred none) }, rfl, ?_, hL.w e tmps ι0 h0 w0 ι _ l u hs hrc hr2 he hd hc (ha.trans ad2)⟩
    simp [Instr.takeDeferred, getObj, setObj, Sem.run, i2]
theorem LvR_colls : ∀ {rs : List Nat} {h : Heap}, rs.Nodup → (∀ r ∈ rs, h.get r = some .defd) → LvR P fn m ds rc (delL h rs) R → LvR P fn m (rs.map .coll ++ ds) rc h R
  | [], h, _, _, hL => hL
  | r :: rs, h, hn, hd, hL => by
    rw [List.nodup_cons] at hn
    refine LvR_coll (hd r List.mem_cons_self) (LvR_colls hn.2 (fun x hx => ?_) hL)
    rw [Heap.get_del_other (fun e => hn.1 (by rw [← e]; exact hx))]
    exact hd x (List.mem_cons_of_mem _ hx)
/-- The loops over functions that a function has run. -/
structure Colls (h0 h : Heap) (rs : List Nat) : Prop where
  nd : rs.Nodup
  defd : ∀ r ∈ rs, h.get r = some .defd
  new : ∀ r ∈ rs, h0.nx ≤ r
theorem Colls.nil (h0 h : Heap) : Colls h0 h [] := ⟨List.nodup_nil, (fun _ h => nomatch h), (fun _ h => nomatch h)⟩
theorem Colls.keep {h0 h h' : Heap} {rs : List Nat} (c : Colls h0 h rs) (hk : ∀ r, h.get r = some .defd → h'.get r = some .defd) : Colls h0 h' rs := ⟨c.nd, fun r hr => hk r (c.defd r hr), c.new⟩
theorem Colls.ext {h0 h h' : Heap} {rs : List Nat} (c : Colls h0 h rs) (he : Ext h h') : Colls h0 h' rs := c.keep fun _ => he.get
theorem Colls.notin {h0 h : Heap} {rs : List Nat} (c : Colls h0 h rs) {b : Nat} (hb : h.get b ≠ some .defd) : b ∉ rs := fun hm => hb (c.defd b hm)
theorem Colls.cons {h0 h : Heap} {rs : List Nat} {r : Nat} (c : Colls h0 h rs) (hr : h.get r = some .defd) (hn : h0.nx ≤ r) (hni : r ∉ rs) : Colls h0 h (r :: rs) :=
  ⟨List.nodup_cons.2 ⟨hni, c.nd⟩, fun x hx => by
    rcases List.mem_cons.1 hx with e | g
    · rw [e]; exact hr
    · exact c.defd x g, fun x hx => by
    rcases List.mem_cons.1 hx with e | g
    · rw [e]; exact hn
    · exact c.new x g⟩
theorem Colls.ext0 {h0 h : Heap} {rs : List Nat} (c : Colls h0 h rs) (hE : Ext h0 h) (hw : WF h0) : Ext h0 (delL h rs) := hE.delL hw c.new
theorem Colls.get {h0 h : Heap} {rs : List Nat} (c : Colls h0 h rs) {b : Nat} {vs : List Value} {el : TypeId} {op : Bool} (hg : h.get b = some (.cells vs el op)) : (delL h rs).get b = some (.cells vs el op) := by
  rw [delL_get (c.notin (by rw [hg]; simp))]; exact hg
/-- A range over a function, by what is known of the heap with the loop's record. -/
theorem Wc_rangeL {fr : Fr} {h : Heap} {Q : CQ} {f : Operand} {ps : Array Tmp} {asg bd : Code} {g : FuncId} {first cap : List Value} (hrd : fr.rd = none) (hf : opk h m f = some (.func (.func g) ⟨first⟩ ⟨cap⟩)) (hb : bodied P g = true)
    (hv : ∀ e, Sat m e → ∀ hL, Ext h hL → WF hL → hL.nx = h.nx + 2 → hL.get h.nx = some .defd → hL.get (h.nx + 1) = some (.loop .ready none fr.fn fr.nt e ps asg bd h.nx) →
      Sv P g (first ++ (.func (.yield (h.nx + 1)) ⟨[]⟩ ⟨[]⟩ :: cap)) hL (RetP fun _ h' => AfterR P fr m ds h.nx (h.nx + 1) Q h')) : Wc P fr (.rangeFunc f ps asg bd) m ds h Q := by
  refine Wc_wf fun hw => Wc_range hrd hf hb fun e hs => ?_
  have hw1 := hw.add .defd
  refine hv e hs _ ((Ext.add hw _).trans (Ext.add hw1 _)) (hw1.add _) rfl ?_ Heap.get_add_same
  rw [Heap.get_add_other (h := h.add .defd) (show h.nx ≠ h.nx + 1 by omega)]
  exact Heap.get_add_same
end Go.Dw
/- DwP: the logic, part 16: appending and literals in drawn regions; made slices; functions that are given. -/
namespace Go.Dw
open Go.Dx
variable {P : Program}
theorem N_bs {h : Heap} {e : Env} {m : Mem} {d : Option Tmp} {ty : TypeId} {pos : String} {af : Array Edge} {gu : Option (Nat × Bool)} {t el : TypeId} {sz len : Nat} {z : Value} {ps : Array (Nat × Operand)} {parts : List (Nat × Value)} {cs : List Value} (hs : Sat m e) (hU : P.underlying t = some (.slice el)) (hT : tsz P el = some sz) (hZ : zeroOf P el = some z) (hz : Nat.beq z.cells.toList.length sz = true) (h0 : Nat.blt 0 sz = true) (hb : Nat.ble (Nat.mul len sz) 16777216 = true)
    (hp : opks h m ps.toList = some parts) (hf : Instr.fill (fun i => some (i * sz, sz)) (rep len z.cells.toList).toArray parts = some ⟨cs⟩) : newOf P ⟨d, .buildSlice t len ps, ty, pos, af, gu⟩ h e = some (.sl len len, .cells cs el false) := by
  unfold newOf
  simp only [opks_opvs hs hp, bsCells_eq hU hT hZ hz h0 hb hf]
section
variable {fr : Fr} {m : Mem} {ds : List ADef} {h : Heap} {ops : Array Oper} {d : Option Tmp} {ty : TypeId} {pos : String} {af : Array Edge} {gu : Option (Nat × Bool)} {K Kp : Value → List ADef → Heap → Prop}
theorem W1_appendF {h0 : Heap} {o : Oper} {tS tX el : TypeId} {sz by' : Nat} {c : Call} {s x : Operand} {v xv : Value} {cs l : List Value} {n k : Nat} {ts : List TypeId} (ho : o = ⟨d, .call c, ty, pos, af, gu⟩) (hw0 : WF h0) (hw : WF h) (he0 : Ext h0 h) (hg : gk ops.toList m gu = some true) (hc : c.callee = .builtin .append) (hargs : c.args = #[s, x]) (hat : c.argTypes.toList = tS :: tX :: ts) (hS : P.underlying tS = some (.slice el)) (hE : Elm P el sz by')
    (hs : opk h m s = some v) (hx : opk h m x = some xv) (hF : FreshSl h0 h v el sz cs n) (hsrc : asrc P el sz tX xv h = some (k, l)) (hl : l.length = k * sz) (h1 : allOne l = true)
    (hb : (2 * (n + k) + 192) * by' ≤ 281474976710656) (hb2 : n + k < 281474976710656)
    (hk : ∀ v' h', FreshSl h0 h' v' el sz (cs ++ l) (n + k) → Ext h0 h' → Keep h h' (blkOf v) → h.nx ≤ h'.nx → (blkOf v' = blkOf v ∨ ∃ b, blkOf v' = some b ∧ h.nx ≤ b) → K v' ds h') : W1 P fr ops o m ds h K Kp := by
  subst ho
  obtain ⟨v', h', a1, a2, a3, a4, a5, a6⟩ := aappend_fresh (P := P) hw0 hw he0 hS hE hF hsrc hl h1 hb hb2
  refine W1_op hg (by show isBuiltin c.callee = true; rw [hc]; rfl) (Aop_of fun e hsat => ?_) (hk v' h' a2 a3 a4 a5 a6)
  show pCall P _ h e c = _
  unfold pCall
  rw [hc]
  simp only [hargs, hat, abuiltin, opk_opv hsat hs, opk_opv hsat hx, a1]
end
section
variable {fr : Fr} {m : Mem} {ds : List ADef} {h : Heap} {Q : CQ} {ops : Array Oper} {l : List Oper} {d : Nat} {ty : TypeId} {pos : String} {af : Array Edge} {gu : Option (Nat × Bool)}
theorem Wo_makeSlice {t el : TypeId} {x y : Operand} {k sz by' : Nat} {z : Value} {kx ky : IntKind} {n : Int} (hg : gk ops.toList m gu = some true) (hlt : Nat.blt d fr.nt = true) (ht : P.underlying t = some (.slice el)) (hE : Elm P el sz by') (hZ : zeroOf P el = some z) (hx : opk h m x = some (.int kx n)) (hy : opk h m y = some (.int ky n)) (hk : n = (k : Int)) (hb : by' * k ≤ 281474976710656) (hb2 : k < 281474976710656)
    (hkk : ∀ h1, Ext h h1 → WF h1 → h1.get h.nx = some (.cells (rep k z.cells.toList) el false) → h1.nx = h.nx + 1 → Wo P fr ops l (upd m d (.slice (some ⟨h.nx, 0, none⟩) k k)) ds h1 Q) : Wo P fr ops (⟨some d, .makeSlice t x y, ty, pos, af, gu⟩ :: l) m ds h Q :=
  Wo_wf fun hw => Wo_do hg rfl rfl hlt (A_makeSlice ht hE hZ hx hy hk hb hb2) (hkk _ (Ext.add hw _) (hw.add _) Heap.get_add_same rfl)
end
theorem Exb.cells {S : Nat → Prop} {h h' : Heap} (a : Exb S h h') {b : Nat} {vs : List Value} {el : TypeId} {op : Bool} (hn : ¬ S b) (hg : h.get b = some (.cells vs el op)) : h'.get b = some (.cells vs el op) := a.1 b _ hn hg
/-- Cells stay. -/
def CK (h h' : Heap) : Prop := ∀ b vs el op, h.get b = some (.cells vs el op) → h'.get b = some (.cells vs el op)
theorem CK.trans {a b c : Heap} (h1 : CK a b) (h2 : CK b c) : CK a c := fun x vs el op hx => h2 _ _ _ _ (h1 _ _ _ _ hx)
theorem CK.of {a b : Heap} (h : Ext a b) : CK a b := fun _ _ _ _ hx => h.get hx
theorem FreshSl.ck {h0 h h' : Heap} {v : Value} {el : TypeId} {sz : Nat} {cs : List Value} {n : Nat} (ho : FreshSl h0 h v el sz cs n) (he : CK h h') : FreshSl h0 h' v el sz cs n := by
  rcases ho with g | ⟨b, sp, op, h1, h2, h3, h4, h5⟩
  · exact .inl g
  · exact .inr ⟨b, sp, op, h1, he _ _ _ _ h2, h3, h4, h5⟩
end Go.Dw
/- DzA: the abstract heap that a world is read by: every block read-only, under its own number; a run over it is a contract. -/
namespace Go.Dx
variable {P : Program} {V : Nat → Nat → Bool}

/-- All blocks of a row of objects, from a number on. -/
noncomputable def roT (lim : Nat) : List Obj → Nat → Tr AO → Tr AO
  | [], _, t => t
  | o :: l, k, t => roT lim l (k + 1) (tset t k (some (.ro lim o)))
theorem roT_get (lim : Nat) : ∀ (l : List Obj) (k : Nat) (t : Tr AO) (b : Nat), tget (roT lim l k t) b = if k ≤ b ∧ b < k + l.length then (l[b - k]?).map (.ro lim) else tget t b := by
  intro l
  induction l with
  | nil => intro k t b; simp only [roT, List.length_nil]; rw [if_neg (by omega)]
  | cons o l ih =>
    intro k t b
    rw [roT, ih]
    by_cases h1 : k + 1 ≤ b ∧ b < k + 1 + l.length
    · rw [if_pos h1, if_pos (by simp; omega)]
      have : b - k = (b - (k + 1)) + 1 := by omega
      rw [this, List.getElem?_cons_succ]
    · rw [if_neg h1]
      by_cases h2 : b = k
      · subst h2; rw [tget_tset_same, if_pos (by simp)]; simp
      · rw [tget_tset_other _ _ _ _ h2, if_neg (by simp; omega)]

/-- The heap of a world, as it is read: 'lim' is above all its blocks. -/
noncomputable def roH (lim gl : Nat) (w : World) : Heap := ⟨roT lim w.heap.toList 0 .e, lim, gl⟩
theorem roH_get (lim gl : Nat) (w : World) (b : Nat) : (roH lim gl w).get b = (w.heap[b]?).map (.ro lim) := by
  show tget (roT lim w.heap.toList 0 .e) b = _
  rw [roT_get]
  by_cases h : b < w.heap.size
  · rw [if_pos (by simpa using h)]; simp
  · rw [if_neg (by simpa using h), tget_e]; simp [Array.getElem?_eq_none (Nat.le_of_not_lt h)]

def idI (lim : Nat) : Iota := fun b => if b < lim then some ⟨b, 0, 0⟩ else none
theorem idI_lt {lim b : Nat} (h : b < lim) : idI lim b = some ⟨b, 0, 0⟩ := if_pos h
theorem roH_HR {lim gl : Nat} {w : World} (hs : w.heap.size ≤ lim) (hg : gl ≤ lim) : HR (idI lim) (roH lim gl w) w.heap where
  obj := fun b o hb => by
    rw [roH_get] at hb
    cases hq : w.heap[b]? with
    | none => rw [hq] at hb; cases hb
    | some x =>
      rw [hq] at hb; cases hb
      have hlt : b < w.heap.size := (Array.getElem?_eq_some_iff.1 hq).1
      refine ⟨⟨b, 0, 0⟩, x, idI_lt (by omega), hq, ?_⟩
      simp only [OR]
      exact ⟨trivial, fun c hc => ⟨⟨c, 0, 0⟩, idI_lt hc, rfl⟩⟩
  inj := fun b b' o o' bi bi' h1 h2 i1 i2 heq => by
    unfold idI at i1 i2
    split at i1
    · split at i2
      · cases i1; cases i2; exact heq
      · cases i2
    · cases i1
  fresh := fun b bi hb => by
    unfold idI at hb
    split at hb
    · assumption
    · cases hb
  glo := fun g bi _ hb => by
    unfold idI at hb
    split at hb
    · cases hb; rfl
    · cases hb
  gn := hg

/-- What was there is there still, in the abstract heap. -/
def Ext (h h' : Heap) : Prop := (∀ b o, h.get b = some o → h'.get b = some o) ∧ h.nx ≤ h'.nx ∧ h'.gl = h.gl
theorem Ext.refl (h : Heap) : Ext h h := ⟨fun _ _ x => x, Nat.le_refl _, rfl⟩
theorem Ext.trans {h h1 h2 : Heap} (a : Ext h h1) (b : Ext h1 h2) : Ext h h2 := ⟨fun c o x => b.1 c o (a.1 c o x), Nat.le_trans a.2.1 b.2.1, b.2.2.trans a.2.2⟩

theorem grown_of_ro {lim gl : Nat} {w w' : World} {ι' : Iota} {h' : Heap} (ha : Adv (idI lim) (roH lim gl w) w ι' h' w') (hr : HR ι' h' w'.heap) (hs : w.heap.size ≤ lim) (he : Ext (roH lim gl w) h') : Unch w w' := by
  refine ⟨ha.sz, fun c hc => ?_, ha.os, ha.out, ha.fz⟩
  obtain ⟨x, hx⟩ : ∃ x, w.heap[c]? = some x := ⟨_, Array.getElem?_eq_getElem hc⟩
  obtain ⟨bi, o', i1, hw, ho⟩ := hr.obj c (.ro lim x) (he.1 _ _ (by rw [roH_get, hx]; rfl))
  have i2 := ha.sub c ⟨c, 0, 0⟩ (idI_lt (by omega))
  rw [i2] at i1; cases i1
  simp only [OR] at ho
  rw [hw, hx, ho.1]

end Go.Dx
/- DzB: arguments: out of the row's reader into the abstract heap in which the world itself is only read; a contract there is one of the row's. -/
namespace Go.Dw
open Go.Dx
variable {H : Type} {enc : TypeId × Value → H} {P : Program} {W : World} {t e : TypeId} {cs : List Value}

/-- The heap of a world, only read. -/
noncomputable abbrev ro (W : World) : Heap := roH W.heap.size 0 W
def Rd (enc : TypeId × Value → H) (P : Program) (W : World) (t : TypeId) (cs : List Value) : Prop := ∃ n x, DataW.trod enc P W 0 (fun _ => true) true n t cs = some x
theorem rd_int (ht : P.underlying t = some (.int .i64)) (h : Rd enc P W t cs) : ∃ n, cs = [i64 n] ∧ I64 n := by
  obtain ⟨m, x, hx⟩ := h
  obtain ⟨n, h1, _, h3⟩ := DataW.trod_int ht hx
  refine ⟨n, h1, ?_⟩
  simp [Lit.wf] at h3
  have h4 : IntKind.i64.min = -9223372036854775808 := by decide
  have h5 : IntKind.i64.max = 9223372036854775807 := by decide
  omega
theorem rd_string (ht : P.underlying t = some .string) (h : Rd enc P W t cs) : ∃ s : List UInt8, cs = [str s] ∧ Len s := by
  obtain ⟨m, x, hx⟩ := h
  obtain ⟨⟨⟨s⟩⟩, h1, _, h3⟩ := DataW.trod_string ht hx
  refine ⟨s, h1, ?_⟩
  have : s.length ≤ maxLen := h3
  have h5 : maxLen = 9223372036854775807 := by decide
  omega
theorem rd_bool (ht : P.underlying t = some .bool) (h : Rd enc P W t cs) : ∃ b, cs = [.bool b] := by
  obtain ⟨m, x, hx⟩ := h
  obtain ⟨b, h1, _⟩ := DataW.trod_bool ht hx
  exact ⟨b, h1⟩
theorem rd_struct {fs : Array Field} (ht : P.underlying t = some (.struct fs)) (h : Rd enc P W t cs) : cs.length = P.cellsOf t ∧ ∀ (i : Nat) (f : Field), fs[i]? = some f → Rd enc P W f.type ((cs.drop f.offset).take (P.cellsOf f.type)) := by
  obtain ⟨m, x, hx⟩ := h
  obtain ⟨xs, n, _, _, h1, h2, h3⟩ := DataW.trod_struct ht hx
  refine ⟨h1, fun i f hi => ?_⟩
  have := h3 i f hi
  have hlt : i < xs.length := by rw [h2]; exact (Array.getElem?_eq_some_iff.1 hi).1
  rw [List.getElem?_eq_getElem hlt] at this
  exact ⟨n, _, this⟩
theorem mapM_get {α β : Type} {f : α → Option β} : ∀ {l : List α} {r : List β}, l.mapM f = some r → l.length = r.length ∧ ∀ (i : Nat) a, l[i]? = some a → f a = r[i]? := by
  intro l
  induction l with
  | nil => intro r h; simp at h; subst h; exact ⟨rfl, fun i a h => by simp at h⟩
  | cons x l ih =>
    intro r h
    rw [List.mapM_cons] at h
    cases hx : f x with
    | none => rw [hx] at h; cases h
    | some y =>
      rw [hx] at h
      cases hl : l.mapM f with
      | none => rw [hl] at h; cases h
      | some ys =>
        rw [hl] at h
        cases h
        obtain ⟨h1, h2⟩ := ih hl
        refine ⟨by simp [h1], fun i a hi => ?_⟩
        cases i with
        | zero => simp at hi; subst hi; simpa using hx
        | succ i => simp at hi ⊢; exact h2 i a hi
theorem cells_cut {x : Addr} {n : Nat} {row : List Value} (h : W.cells? 0 x n = some row) (hn : 0 < n) : x.spot = none ∧ ∃ c t fz, W.heap[x.block]? = some (.cells c t fz) ∧ cut c.toList x.off n = some row := by
  unfold World.cells? at h
  rw [if_pos (Nat.zero_le _)] at h
  obtain ⟨h1, h2⟩ := mapM_get h
  have h1' : row.length = n := by simpa using h1.symm
  have key : ∀ i, i < n → W.cell? (x.add i) = row[i]? := fun i hi => h2 i i (by simp [hi])
  have k0 := key 0 hn
  have e0 : x.add 0 = x := by simp [Addr.add]
  rw [e0, List.getElem?_eq_getElem (by omega)] at k0
  unfold World.cell? at k0
  cases hb : W.heap[x.block]? with
  | none => rw [hb] at k0; cases k0
  | some ob =>
    rw [hb] at k0
    cases ob with
    | cells c t fz =>
      simp only at k0
      have hsp : x.spot = none := by
        cases hs : x.spot with
        | none => rfl
        | some y => rw [hs] at k0; simp at k0
      refine ⟨hsp, c, t, fz, rfl, ?_⟩
      have hget : ∀ i, i < n → c.toList[x.off + i]? = row[i]? := by
        intro i hi
        have := key i hi
        rw [← this]
        unfold World.cell?
        have hblk : (x.add i).block = x.block := by unfold Addr.add; split <;> rfl
        have hspt : (x.add i).spot = none := by unfold Addr.add; split <;> simp [hsp]
        have hoff : (x.add i).off = x.off + i := by unfold Addr.add; split <;> simp_all
        rw [hblk, hb]
        simp only [hspt, hoff]
        simp
      have hlt : x.off + n ≤ c.toList.length := by
        have := hget (n - 1) (by omega)
        rw [List.getElem?_eq_getElem (show n - 1 < row.length by omega)] at this
        have := (List.getElem?_eq_some_iff.1 this).1
        omega
      unfold cut
      have hb2 : Nat.ble (Nat.add x.off n) c.toList.length = true := Nat.ble_eq_true_of_le hlt
      rw [hb2]
      simp only
      congr 1
      apply List.ext_getElem?
      intro i
      rw [List.getElem?_take]
      split
      · rename_i hi
        rw [List.getElem?_drop]; exact hget i hi
      · rename_i hi
        rw [List.getElem?_eq_none (by omega)]
    | _ => cases k0
theorem okv_sl {b o lim len cap : Nat} (h : Nat.blt b lim = true) : okv lim (.slice (some ⟨b, o, none⟩) len cap) = true := by
  cases len <;> cases cap <;> first | rfl | exact h
/-- What a slice's cell leads to. -/
theorem rd_slice (ht : P.underlying t = some (.slice e)) (hz : 0 < P.cellsOf e) (h : Rd enc P W t cs) : ∃ v a len cap, cs = [v] ∧ okv W.heap.size v = true ∧ nz v = .slice a len cap ∧ len < 9223372036854775808 ∧
    ∀ i, i < len → ∃ b o, a = some ⟨b, o, none⟩ ∧ ∃ row c t fz, W.heap[b]? = some (.cells c t fz) ∧ cut c.toList (o + i * P.cellsOf e) (P.cellsOf e) = some row ∧ Rd enc P W e row := by
  have h5 : maxLen = 9223372036854775807 := by decide
  obtain ⟨m, x, hx⟩ := h
  rcases DataW.trod_slice ht hx with ⟨h1, _⟩ | ⟨a, len, cap, elems, rest, n, _, h1, _, _, hlc, hcm, hel, he, hr, _⟩
  · exact ⟨_, none, 0, 0, h1, rfl, rfl, by decide, fun i hi => by omega⟩
  · have hread : ∀ i, i < cap → ∃ row, W.cells? 0 (a.add (i * P.cellsOf e)) (P.cellsOf e) = some row ∧ Rd enc P W e row := by
      intro i hi
      have : ∃ y, (W.cells? 0 (a.add (i * P.cellsOf e)) (P.cellsOf e)).bind (DataW.trod enc P W 0 (fun _ => true) true n e) = some y := by
        rcases Nat.lt_or_ge i len with g | g
        · have := he i g
          rw [List.getElem?_eq_getElem (by omega)] at this
          exact ⟨_, this⟩
        · obtain ⟨hr1, hr2⟩ := hr rfl
          have := hr2 (i - len) (by omega)
          rw [List.getElem?_eq_getElem (by omega), show len + (i - len) = i by omega] at this
          exact ⟨_, this⟩
      obtain ⟨y, hy⟩ := this
      cases hc : W.cells? 0 (a.add (i * P.cellsOf e)) (P.cellsOf e) with
      | none => rw [hc] at hy; cases hy
      | some row => rw [hc] at hy; exact ⟨row, rfl, n, y, hy⟩
    by_cases hcap : cap = 0
    · have hlen : len = 0 := by omega
      subst hcap; subst hlen
      exact ⟨_, some ⟨0, 0, some 0⟩, 0, 0, h1, rfl, rfl, by decide, fun i hi => by omega⟩
    · obtain ⟨row0, hc0, _⟩ := hread 0 (by omega)
      have e0 : a.add (0 * P.cellsOf e) = a := by simp [Addr.add]
      rw [e0] at hc0
      obtain ⟨hsp, c, t', fz, hb, _⟩ := cells_cut hc0 hz
      obtain ⟨b, o, sp⟩ := a
      simp only at hsp hb
      subst hsp
      have hlt : b < W.heap.size := (Array.getElem?_eq_some_iff.1 hb).1
      have hne : ¬ (len = 0 ∧ cap = 0) := fun h => hcap h.2
      refine ⟨_, some ⟨b, o, none⟩, len, cap, h1, ?_, ?_, by omega, fun i hi => ⟨b, o, rfl, ?_⟩⟩
      · have hbl : Nat.blt b W.heap.size = true := by rw [Nat.blt_eq]; exact hlt
        exact okv_sl hbl
      · unfold nz
        split
        · rename_i hq; simp only [Value.slice.injEq] at hq; exact absurd ⟨hq.2.1, hq.2.2⟩ hne
        · rfl
      · obtain ⟨row, hc, hrd⟩ := hread i (by omega)
        obtain ⟨_, c1, t1, fz1, hb1, hcut⟩ := cells_cut hc hz
        have hblk : ((⟨b, o, none⟩ : Addr).add (i * P.cellsOf e)).block = b := by unfold Addr.add; split <;> rfl
        have hoff : ((⟨b, o, none⟩ : Addr).add (i * P.cellsOf e)).off = o + i * P.cellsOf e := by unfold Addr.add; split <;> simp_all
        rw [hblk] at hb1
        rw [hoff] at hcut
        exact ⟨row, c1, t1, fz1, hb1, hcut, hrd⟩
/-- What an empty slice's cell leads to. -/
theorem rd_slice0 (ht : P.underlying t = some (.slice e)) (hz : 0 < P.cellsOf e) (h : Rd enc P W t cs) : ∃ v a len cap, cs = [v] ∧ nz v = .slice a len cap ∧ (len = 0 → a = none ∨ (∃ b o, a = some ⟨b, o, some 0⟩) ∨ ∃ b o c t fz, a = some ⟨b, o, none⟩ ∧ W.heap[b]? = some (.cells c t fz) ∧ o ≤ c.size) := by
  obtain ⟨m, x, hx⟩ := h
  rcases DataW.trod_slice ht hx with ⟨h1, _⟩ | ⟨a, len, cap, elems, rest, n, _, h1, _, _, hlc, hcm, hel, he, hr, _⟩
  · exact ⟨_, none, 0, 0, h1, rfl, fun _ => .inl rfl⟩
  · by_cases hcap : cap = 0
    · have hlen : len = 0 := by omega
      subst hcap; subst hlen
      exact ⟨_, some ⟨0, 0, some 0⟩, 0, 0, h1, rfl, fun _ => .inr (.inl ⟨0, 0, rfl⟩)⟩
    · have hread : ∃ row, W.cells? 0 a (P.cellsOf e) = some row := by
        have : ∃ y, (W.cells? 0 (a.add (0 * P.cellsOf e)) (P.cellsOf e)).bind (DataW.trod enc P W 0 (fun _ => true) true n e) = some y := by
          rcases Nat.lt_or_ge 0 len with g | g
          · have := he 0 g
            rw [List.getElem?_eq_getElem (by omega)] at this
            exact ⟨_, this⟩
          · obtain ⟨hr1, hr2⟩ := hr rfl
            have := hr2 (0 - len) (by omega)
            rw [List.getElem?_eq_getElem (by omega), show len + (0 - len) = 0 by omega] at this
            exact ⟨_, this⟩
        obtain ⟨y, hy⟩ := this
        have e0 : a.add (0 * P.cellsOf e) = a := by simp [Addr.add]
        rw [e0] at hy
        cases hc : W.cells? 0 a (P.cellsOf e) with
        | none => rw [hc] at hy; cases hy
        | some row => exact ⟨row, rfl⟩
      obtain ⟨row0, hc0⟩ := hread
      obtain ⟨hsp, c, t', fz, hb, hcut⟩ := cells_cut hc0 hz
      obtain ⟨b, o, sp⟩ := a
      simp only at hsp hb hcut
      subst hsp
      have hne : ¬ (len = 0 ∧ cap = 0) := fun h => hcap h.2
      refine ⟨_, some ⟨b, o, none⟩, len, cap, h1, ?_, fun _ => .inr (.inr ⟨b, o, c, t', fz, rfl, hb, ?_⟩)⟩
      · unfold nz
        split
        · rename_i hq; simp only [Value.slice.injEq] at hq; exact absurd ⟨hq.2.1, hq.2.2⟩ hne
        · rfl
      · have := (cut_eq hcut).1
        have : c.toList.length = c.size := Array.length_toList
        omega
theorem ro_row {b o n : Nat} {row : List Value} {c : Array Value} {t : TypeId} {fz : Nat × Nat} (hb : W.heap[b]? = some (.cells c t fz)) (hc : cut c.toList o n = some row) (hok : row.all (okv W.heap.size) = true) : rowAt (ro W) b o n = some (row.map nz) := by
  unfold rowAt
  rw [roH_get, hb]
  simp only [Option.map_some]
  unfold rdo
  simp only [hc, hok]
theorem ro_cell {b o : Nat} {v : Value} {c : Array Value} {t : TypeId} {fz : Nat × Nat} (hb : W.heap[b]? = some (.cells c t fz)) (hc : cut c.toList o 1 = some [v]) (hok : okv W.heap.size v = true) : cellAt (ro W) b o = some (nz v) := by
  have := cell_of_row (k := 0) (v := nz v) (ro_row hb hc (by simp [hok])) rfl
  simpa using this
theorem list_of {α : Type} {R : Nat → α → Prop} {n : Nat} (h : ∀ i, i < n → ∃ x, R i x) : ∃ l : List α, l.length = n ∧ ∀ i (hi : i < l.length), R i l[i] := by
  induction n with
  | zero => exact ⟨[], rfl, fun i hi => by simp at hi⟩
  | succ n ih =>
    obtain ⟨l, h1, h2⟩ := ih fun i hi => h i (by omega)
    obtain ⟨x, hx⟩ := h n (by omega)
    refine ⟨l ++ [x], by simp [h1], fun i hi => ?_⟩
    rcases Nat.lt_or_ge i l.length with g | g
    · rw [List.getElem_append_left g]; exact h2 i g
    · have : i = n := by simp at hi; omega
      subst this
      subst h1
      simpa using hx
/-- A slice of things that take one cell each. -/
theorem rd_list {α : Type} {encA : α → Value} {Fit : α → Prop} (ht : P.underlying t = some (.slice e)) (hz : P.cellsOf e = 1) (hel : ∀ row, Rd enc P W e row → ∃ x v, row = [v] ∧ okv W.heap.size v = true ∧ nz v = encA x ∧ Fit x) (h : Rd enc P W t cs) :
    ∃ v a l cap, cs = [v] ∧ okv W.heap.size v = true ∧ nz v = .slice a l.length cap ∧ ListAt encA (ro W) a l ∧ Len l ∧ ∀ x ∈ l, Fit x := by
  obtain ⟨v, a, len, cap, h1, h2, h3, h4, h5⟩ := rd_slice ht (by omega) h
  have : ∀ i, i < len → ∃ x, (∃ b o, a = some ⟨b, o, none⟩ ∧ cellAt (ro W) b (o + i * 1) = some (encA x)) ∧ Fit x := by
    intro i hi
    obtain ⟨b, o, ha, row, c, t', fz, hb, hc, hrd⟩ := h5 i hi
    obtain ⟨x, v, rfl, ok, hx, hf⟩ := hel row hrd
    rw [hz] at hc
    exact ⟨x, ⟨b, o, ha, by rw [← hx]; exact ro_cell hb hc ok⟩, hf⟩
  obtain ⟨l, hl, hR⟩ := list_of this
  subst hl
  refine ⟨v, a, l, cap, h1, h2, h3, fun i hi => ?_, h4, fun x hx => ?_⟩
  · obtain ⟨⟨b, o, ha, hc⟩, _⟩ := hR i hi
    exact ⟨b, o, none, ha, hc⟩
  · obtain ⟨i, hi, rfl⟩ := List.getElem_of_mem hx
    exact (hR i hi).2
theorem rd_ints (ht : P.underlying t = some (.slice e)) (he : P.underlying e = some (.int .i64)) (hz : P.cellsOf e = 1) (h : Rd enc P W t cs) :
    ∃ v a l cap, cs = [v] ∧ okv W.heap.size v = true ∧ nz v = .slice a l.length cap ∧ IntsAt (ro W) a l ∧ Len l ∧ ∀ x ∈ l, I64 x :=
  rd_list (encA := i64) (Fit := I64) ht hz (fun row hr => by
    obtain ⟨n, h1, h2⟩ := rd_int he hr
    exact ⟨n, _, h1, rfl, rfl, h2⟩) h
/-- .. which can be the source of an append. -/
theorem rd_intsS (ht : P.underlying t = some (.slice e)) (he : P.underlying e = some (.int .i64)) (hz : P.cellsOf e = 1) (h : Rd enc P W t cs) :
    ∃ v a l cap, cs = [v] ∧ okv W.heap.size v = true ∧ nz v = .slice a l.length cap ∧ SrcAt i64 (ro W) a l ∧ Len l ∧ ∀ x ∈ l, I64 x := by
  obtain ⟨v, a, l, cap, h1, h2, h3, h4, h5, h6⟩ := rd_ints ht he hz h
  obtain ⟨v', a', len', cap', g1, g2, g3⟩ := rd_slice0 ht (by omega) h
  rw [h1] at g1
  simp only [List.cons.injEq, and_true] at g1
  subst g1
  rw [h3] at g2
  simp only [Value.slice.injEq] at g2
  obtain ⟨rfl, rfl, rfl⟩ := g2
  refine ⟨v, a, l, cap, h1, h2, h3, ⟨h4, fun hn => ?_⟩, h5, h6⟩
  rcases g3 (by rw [hn]; rfl) with g | g | ⟨b, o, c, t', fz, g, hb, hle⟩
  · exact .inl g
  · exact .inr (.inl g)
  · refine .inr (.inr ⟨b, o, none, g, ?_⟩)
    have hlen : c.toList.length = c.size := Array.length_toList
    have := ro_row (W := W) (o := o) (n := 0) (row := []) hb (by
      unfold cut
      have : Nat.ble (Nat.add o 0) c.toList.length = true := Nat.ble_eq_true_of_le (by show o + 0 ≤ c.toList.length; omega)
      rw [this]; simp) rfl
    simpa using this
/-- A slice of rows. -/
theorem rd_rows {α : Type} {R : Heap → List Value → α → Prop} {Fit : α → Prop} {k : Nat} (ht : P.underlying t = some (.slice e)) (hz : P.cellsOf e = k) (hk : 0 < k) (hel : ∀ row, Rd enc P W e row → ∃ x, row.all (okv W.heap.size) = true ∧ R (ro W) (row.map nz) x ∧ Fit x) (h : Rd enc P W t cs) :
    ∃ v a l cap, cs = [v] ∧ okv W.heap.size v = true ∧ nz v = .slice a l.length cap ∧ RowsAt k R (ro W) a l ∧ Len l ∧ ∀ x ∈ l, Fit x := by
  obtain ⟨v, a, len, cap, h1, h2, h3, h4, h5⟩ := rd_slice ht (by omega) h
  have : ∀ i, i < len → ∃ x, (∃ b o, a = some ⟨b, o, none⟩ ∧ ∃ row, rowAt (ro W) b (o + i * k) k = some row ∧ R (ro W) row x) ∧ Fit x := by
    intro i hi
    obtain ⟨b, o, ha, row, c, t', fz, hb, hc, hrd⟩ := h5 i hi
    obtain ⟨x, ok, hx, hf⟩ := hel row hrd
    rw [hz] at hc
    exact ⟨x, ⟨b, o, ha, _, ro_row hb hc ok, hx⟩, hf⟩
  obtain ⟨l, hl, hR⟩ := list_of this
  subst hl
  refine ⟨v, a, l, cap, h1, h2, h3, fun i hi => ?_, h4, fun x hx => ?_⟩
  · obtain ⟨⟨b, o, ha, row, hc, hx⟩, _⟩ := hR i hi
    exact ⟨b, o, none, ha, row, hc, hx⟩
  · obtain ⟨i, hi, rfl⟩ := List.getElem_of_mem hx
    exact (hR i hi).2
/-- A contract over the world's own heap. -/
theorem calls_of_sv {f : FuncId} {args : List Value} {args' : Array Value} (hs : Sv P f args (ro W) (RetP fun v h' => v = .bool true ∧ Ext (ro W) h')) (hv : VRL (idI W.heap.size) args args'.toList) :
    Calls P f args' W fun e W' => e = .returned (.bool true) ∧ Unch W W' := by
  refine (hs.w (idI W.heap.size) W args' (roH_HR (Nat.le_refl _) (Nat.zero_le _)) hv).mono ?_
  rintro en w' ⟨r, hR, hP⟩
  cases r with
  | ret v h' =>
    obtain ⟨rfl, he⟩ := hR
    obtain ⟨ι', v', rfl, hvv, hr, ha⟩ := hP
    cases hvv
    exact ⟨rfl, grown_of_ro ha hr (Nat.le_refl _) ⟨he.1, he.2.1, he.2.2⟩⟩
  | pan v h' => exact hR.elim
  | no => exact hR.elim
theorem okv_vr {v : Value} (h : okv W.heap.size v = true) : VR (idI W.heap.size) (nz v) v := okv_sound (fun b hb => ⟨⟨b, 0, 0⟩, idI_lt hb, rfl⟩) h
theorem okv_vrl {l : List Value} (h : l.all (okv W.heap.size) = true) : VRL (idI W.heap.size) (l.map nz) l := okv_all (fun b hb => ⟨⟨b, 0, 0⟩, idI_lt hb, rfl⟩) h
end Go.Dw
/- DzC: what a row asks behind the call, where the answer is 'true' and all that was there is as it was. -/
namespace Go.Dw
open Go.Dx Go.ChangeShapes Go.WideShapes Go.ChangeAt Go.RowKit
variable {H : Type} {enc : TypeId × Value → H} {P : Program} {W W' : World}
theorem trodAll_stays {T : TypeId → Prop} {sp : Nat → Bool} (K : Kids P T) (hz : ∀ t e, T t → P.underlying t = some (.slice e) → 0 < P.cellsOf e) : ∀ {ts : List TypeId} {vs : List Value} {ds : List (DataW H)} {ps : List MemPlace}, (∀ t ∈ ts, T t) → DataW.TrodAll enc P W 0 (fun _ => true) true ts vs ds ps → (∀ p ∈ ps, W.sameAt W' p) → (∀ p ∈ ps, sp p.block = true) → DataW.TrodAll enc P W' 0 sp true ts vs ds ps
  | [], [], [], _, _, h, _, _ => h
  | t :: ts, v :: vs, d :: ds, _, hT, ⟨p, q, ⟨n, h1⟩, h2, e⟩, hw, hs => by
    subst e
    refine ⟨p, q, ⟨n, DataW.trod_stays (x := (d, p)) K (fun a b => hz _ _ a b) (fun h => by cases h) (hT t List.mem_cons_self) h1 (fun x hx => hw x (List.mem_append_left _ hx)) (fun x hx => hs x (List.mem_append_left _ hx))⟩, ?_, rfl⟩
    exact trodAll_stays K hz (fun t ht => hT t (List.mem_cons_of_mem _ ht)) h2 (fun x hx => hw x (List.mem_append_right _ hx)) (fun x hx => hs x (List.mem_append_right _ hx))
theorem sameAt_of (hu : Unch W W') : ∀ p : MemPlace, p.block < W.heap.size → W.sameAt W' p
  | .cell b off, hp => by
    have : W'.heap[b]? = W.heap[b]? := hu.same b hp
    simp only [World.sameAt, World.cell?, this]
  | .map b, hp => hu.same b hp
theorem post_bool {fn : Func} {s : ChangeSpec} {args : Array Value} {ds : List (DataW H)} {before : List MemPlace} {T : TypeId → Prop} (K : Kids P T) (hz : ∀ t e, T t → P.underlying t = some (.slice e) → 0 < P.cellsOf e) (hT : ∀ t ∈ fn.params.toList, T t)
    (hW : DataW.Whole enc P fn.params.toList s.vars false W args.toList ds [] before) (hv : s.vars = []) (hres : (s.fn H (ds ++ [])).results = [.lit (.bool true)]) (hargs : (s.fn H (ds ++ [])).args = ds) (hvr : (s.fn H (ds ++ [])).vars = [])
    (hrt : fn.resultTypes = #[4]) (h4 : P.underlying 4 = some .bool) (hu : Unch W W') : s.post enc P fn false true false false W args (.bool true) W' := by
  have hW' := hW
  obtain ⟨p, q, hA, hV, rfl, _, _⟩ := hW
  rw [hv] at hV
  obtain ⟨_, rfl⟩ := trodVars_none hV
  rw [List.append_nil] at hW'
  have hg := hu.grown
  refine post_of_same (pa := p) (pv := []) hW' (fun _ _ _ => ?_) (fun sp hsp => ?_) (fun _ _ => ?_) (by simp) (hg.frame _) hg.2.1 (ok_one hrt rfl (okWide_bool_mk h4 _))
  · rw [hres, hrt]; exact trodAll_cons_mk (shut_bool h4 _) trodAll_mk0
  · rw [hargs]
    exact trodAll_stays K hz hT hA (fun x hx => sameAt_of hu x (hW'.lt x hx)) (fun x hx => hsp x hx)
  · rw [hv, hvr]; exact rfl
end Go.Dw
