/- Z2: rows of cells as the source of an append; parts of rows; rows of the function's own. -/
import Derived.Test.YtcjmpdpgfmjcgaaGreatDoorJG17
import Derived.Test.YtcjmpdpgfmjcgaaGreatDoorJG15
import Derived.Test.YtcjmpdpgfmjcgaaGreatDoorJG2
import Derived.Test.YtcjmpdpgfmjcgaaGreatDoorJG22
import Derived.Test.YtcjmpdpgfmjcgaaGreatDoorJG21
import Derived.Test.YtcjmpdpgfmjcgaaGreatDoorJG16
namespace Go.Dw
open Go Go.Dx Go.Proofs
variable {P : Program}
/-- Rows, as they lie there. -/
def RawAt (k : Nat) (h : Heap) (a : Option Addr) (rs : List (List Value)) : Prop := RowsAt k (fun _ row x => row = x) h a rs
theorem RawAt.at {k : Nat} {h : Heap} {a : Option Addr} {rs : List (List Value)} (hl : RawAt k h a rs) {i : Nat} (hi : i < rs.length) : ∃ b o oa, a = some ⟨b, o, oa⟩ ∧ rowAt h b (o + i * k) k = some rs[i] := by
  obtain ⟨b, o, oa, e, row, h1, rfl⟩ := hl i hi
  exact ⟨b, o, oa, e, h1⟩
theorem RawAt.ext {k : Nat} {h h' : Heap} {a : Option Addr} {rs : List (List Value)} (hl : RawAt k h a rs) (he : Ext h h') : RawAt k h' a rs := RowsAt.ext (R := fun _ row x => row = x) (fun x _ => x) hl he
theorem list_ofV {α : Type} {Q : Nat → α → Prop} {n : Nat} (h : ∀ i, i < n → ∃ x, Q i x) : ∃ l : List α, l.length = n ∧ ∀ i (hi : i < l.length), Q i l[i] := by
  induction n with
  | zero => exact ⟨[], rfl, fun i hi => by simp at hi⟩
  | succ n ih =>
    obtain ⟨l, h1, h2⟩ := ih fun i hi => h i (by omega)
    obtain ⟨x, hx⟩ := h n (by omega)
    refine ⟨l ++ [x], by simp [h1], fun i hi => ?_⟩
    rcases Nat.lt_or_ge i l.length with g | g
    · rw [List.getElem_append_left g]; exact h2 i g
    · have : i = n := by simp at hi; omega
      subst this
      rw [List.getElem_append_right g]
      simpa [h1] using hx
theorem cut_len {vs l : List Value} {o n : Nat} (h : cut vs o n = some l) : l.length = n := by
  obtain ⟨h1, h2⟩ := cut_eq h
  rw [h2, List.length_take, List.length_drop]; omega
theorem rowAt_len {h : Heap} {b o n : Nat} {l : List Value} (hr : rowAt h b o n = some l) : l.length = n := by
  unfold rowAt at hr
  split at hr
  · exact cut_len hr
  · rename_i lim ob _
    unfold rdo at hr
    split at hr
    · split at hr
      · rename_i l' hc
        have hl := cut_len hc
        cases hb : l'.all (okv lim)
        · rw [hb] at hr; cases hr
        · rw [hb] at hr; cases hr
          rw [List.length_map]; exact hl
      · cases hr
    · cases hr
  · cases hr
theorem RawAt.len {k : Nat} {h : Heap} {a : Option Addr} {rs : List (List Value)} (hl : RawAt k h a rs) : ∀ r ∈ rs, r.length = k := fun r hr => by
  obtain ⟨i, hi, rfl⟩ := List.getElem_of_mem hr
  obtain ⟨b, o, oa, e, h1⟩ := hl.at hi
  exact rowAt_len h1
/-- The rows of a list. -/
theorem RowsAt.raw {α : Type} {k : Nat} {R : Heap → List Value → α → Prop} {h : Heap} {a : Option Addr} {l : List α} (hl : RowsAt k R h a l) : ∃ rs, rs.length = l.length ∧ RawAt k h a rs ∧ ∀ i (h1 : i < rs.length) (h2 : i < l.length), R h rs[i] l[i] := by
  obtain ⟨rs, h1, h2⟩ := list_ofV (n := l.length) (Q := fun i row => ∃ (hi : i < l.length), (∃ b o oa, a = some ⟨b, o, oa⟩ ∧ rowAt h b (o + i * k) k = some row) ∧ R h row l[i]) fun i hi => by
    obtain ⟨b, o, oa, e, row, g1, g2⟩ := hl i hi
    exact ⟨row, hi, ⟨b, o, oa, e, g1⟩, g2⟩
  refine ⟨rs, h1, fun i hi => ?_, fun i hi hi2 => (h2 i hi).2.2⟩
  obtain ⟨_, ⟨b, o, oa, e, g⟩, _⟩ := h2 i hi
  exact ⟨b, o, oa, e, _, g, rfl⟩
theorem RawAt.rows {α : Type} {k : Nat} {R : Heap → List Value → α → Prop} {h : Heap} {a : Option Addr} {rs : List (List Value)} {l : List α} (hr : RawAt k h a rs) (hl : rs.length = l.length) (hR : ∀ i (h1 : i < rs.length) (h2 : i < l.length), R h rs[i] l[i]) : RowsAt k R h a l := fun i hi => by
  obtain ⟨b, o, oa, e, h1⟩ := hr.at (i := i) (by omega)
  exact ⟨b, o, oa, e, _, h1, hR i (by omega) hi⟩
theorem RawAt.take {k : Nat} {h : Heap} {a : Option Addr} {rs : List (List Value)} (hl : RawAt k h a rs) (n : Nat) : RawAt k h a (rs.take n) := fun i hi => by
  rw [List.length_take] at hi
  obtain ⟨b, o, oa, e, h1⟩ := hl.at (i := i) (by omega)
  exact ⟨b, o, oa, e, _, h1, by rw [List.getElem_take]⟩
theorem RawAt.drop {k b o : Nat} {oa oa' : Option Nat} {h : Heap} {rs : List (List Value)} (hl : RawAt k h (some ⟨b, o, oa⟩) rs) (n : Nat) : RawAt k h (some ⟨b, o + n * k, oa'⟩) (rs.drop n) := fun i hi => by
  rw [List.length_drop] at hi
  obtain ⟨b', o', oa2, e, h1⟩ := hl.at (i := n + i) (by omega)
  cases e
  refine ⟨b, o + n * k, oa', rfl, _, ?_, by rw [List.getElem_drop]⟩
  rw [show o + n * k + i * k = o + (n + i) * k by rw [Nat.add_mul]; omega]
  exact h1
abbrev catR (rs : List (List Value)) : List Value := rs.flatMap id
theorem catR_len {k : Nat} : ∀ {rs : List (List Value)}, (∀ r ∈ rs, r.length = k) → (catR rs).length = rs.length * k
  | [], _ => by simp
  | r :: rs, h => by
    have ih := catR_len (rs := rs) fun x hx => h x (List.mem_cons_of_mem _ hx)
    have h1 := h r List.mem_cons_self
    unfold catR at ih ⊢
    rw [List.flatMap_cons, List.length_append, ih, List.length_cons, Nat.add_mul, Nat.one_mul]
    show r.length + _ = _
    omega
theorem RawAt.row {k b o : Nat} {oa : Option Nat} {h : Heap} {rs : List (List Value)} (hl : RawAt k h (some ⟨b, o, oa⟩) rs) (hk : 0 < k) (h0 : 0 < rs.length) : rowAt h b o (rs.length * k) = some (catR rs) := by
  have hn := hl.len
  have hc := catR_len hn
  rw [← hc]
  refine row_of_cells (by rw [hc]; exact Nat.mul_pos h0 hk) fun q hq => ?_
  rw [hc] at hq
  have h1 : q / k < rs.length := (Nat.div_lt_iff_lt_mul hk).2 hq
  have h2 : q % k < k := Nat.mod_lt _ hk
  have h3 : q = q / k * k + q % k := by rw [Nat.mul_comm]; exact (Nat.div_add_mod q k).symm
  obtain ⟨b', o', oa', e, hr⟩ := hl.at h1
  cases e
  have h4 : (rs[q / k])[q % k]? = (catR rs)[q]? := by
    obtain ⟨_, h6⟩ := cut_eq (cut_flat (f := id) (k := k) h1 hn)
    have h6 : rs[q / k] = ((catR rs).drop (q / k * k)).take k := h6
    rw [h6, List.getElem?_take, if_pos h2, List.getElem?_drop, ← h3]
  have h5 : (catR rs)[q]? = some (catR rs)[q] := List.getElem?_eq_getElem _
  have := cell_of_row (k := q % k) hr (by rw [nth_eq, h4, h5])
  rw [show o + q / k * k + q % k = o + q by omega] at this
  exact this
def SrcZ (h : Heap) (a : Option Addr) : Prop := a = none ∨ (∃ b o, a = some ⟨b, o, some 0⟩) ∨ ∃ b o oa, a = some ⟨b, o, oa⟩ ∧ rowAt h b o 0 = some []
theorem SrcZ.ext {h h' : Heap} {a : Option Addr} (hz : SrcZ h a) (he : Ext h h') : SrcZ h' a := hz.imp id fun hx => hx.imp id fun ⟨b, o, oa, h1, h2⟩ => ⟨b, o, oa, h1, he.row h2⟩
theorem RawAt.src {k : Nat} {h : Heap} {a : Option Addr} {rs : List (List Value)} {cap : Nat} {el tX : TypeId} {dd : TypeDesc} (hl : RawAt k h a rs) (hk : 0 < k) (hz : rs = [] → SrcZ h a) (hX : P.underlying tX = some dd) (hni : ∀ k, dd ≠ .int k) : asrc P el k tX (.slice a rs.length cap) h = some (rs.length, catR rs) := by
  cases rs with
  | nil =>
    rcases hz rfl with rfl | ⟨b, o, rfl⟩ | ⟨b, o, oa, rfl, h2⟩
    · unfold asrc
      rw [hX]
      cases dd <;> first | rfl | exact absurd rfl (hni _)
    · unfold asrc
      rw [hX]
      cases dd <;> first | rfl | exact absurd rfl (hni _)
    · exact asrc_row hX hni (by rw [List.length_nil, Nat.zero_mul]; exact h2)
  | cons r rs =>
    obtain ⟨b, o, oa, rfl, _⟩ := hl.at (i := 0) (by simp)
    exact asrc_row hX hni (hl.row hk (by simp))
theorem raw_of {h0 h : Heap} {v : Value} {el : TypeId} {k : Nat} {rs : List (List Value)} (hF : FreshSl h0 h v el k (catR rs) rs.length) (hn : ∀ r ∈ rs, r.length = k) : ∃ a, v = .slice a rs.length rs.length ∧ RawAt k h a rs ∧ (rs = [] → SrcZ h a) := by
  rcases hF with ⟨rfl, _, e⟩ | ⟨b, sp, op, rfl, hg, _⟩
  · exact ⟨none, by rw [e], fun i hi => by omega, fun _ => .inl rfl⟩
  · refine ⟨_, rfl, fun i hi => ⟨b, 0, sp, rfl, _, rowAt_cells hg (by rw [Nat.zero_add]; exact cut_flat hi hn), rfl⟩, fun e => ?_⟩
    subst e
    exact .inr (.inr ⟨b, 0, sp, rfl, rowAt_cells hg rfl⟩)
theorem rowAt_end {h : Heap} {b o n m k : Nat} {l : List Value} (hr : rowAt h b o n = some l) (hm : o ≤ m) (hk : m + k ≤ o + n) (h0 : k = 0) : rowAt h b m k = some [] := by
  subst h0
  have hc : ∀ {vs : List Value}, o + n ≤ vs.length → cut vs m 0 = some [] := fun {vs} h1 => by
    unfold cut
    have : Nat.ble (Nat.add m 0) vs.length = true := Nat.ble_eq_true_of_le (by show m + 0 ≤ vs.length; omega)
    rw [this]; simp
  unfold rowAt at hr ⊢
  split at hr
  · exact hc (cut_eq hr).1
  · rename_i lim ob _
    unfold rdo at hr ⊢
    split at hr
    · split at hr
      · rename_i l' hq
        simp only [hc (cut_eq hq).1]
        rfl
      · cases hr
    · cases hr
  · cases hr
theorem catR_append (a b : List (List Value)) : catR (a ++ b) = catR a ++ catR b := List.flatMap_append
/-- A slice of reels that was handed in. -/
structure ReelsP (h : Heap) (ar : Option Addr) (l : List Reel) (cr : Nat) : Prop where
  le : l.length ≤ cr
  plain : ∀ b o oa, ar = some ⟨b, o, oa⟩ → l ≠ [] → oa = none
  z : l = [] → SrcZ h ar
  nil : ar = none → cr = 0
theorem ReelsP.ext {h h' : Heap} {ar : Option Addr} {l : List Reel} {cr : Nat} (a : ReelsP h ar l cr) (he : Ext h h') : ReelsP h' ar l cr := ⟨a.le, a.plain, fun e => (a.z e).ext he, a.nil⟩
def TaskP (h : Heap) (tc : List Value) (t : Task) : Prop := ∃ am cm ar cr, tc = [i64 t.first, i64 t.days, .slice am t.machines.length cm, .slice ar t.reels.length cr] ∧ RowsAt 2 MachAt h am t.machines ∧ RowsAt 5 ReelAt h ar t.reels ∧ ReelsP h ar t.reels cr
theorem TaskP.at {h : Heap} {tc : List Value} {t : Task} (a : TaskP h tc t) : TaskAt h tc t := by
  obtain ⟨am, cm, ar, cr, e, h1, h2, _⟩ := a
  exact ⟨am, cm, ar, cr, e, h1, h2⟩
theorem TaskP.ext {h h' : Heap} {tc : List Value} {t : Task} (a : TaskP h tc t) (he : Ext h h') : TaskP h' tc t := by
  obtain ⟨am, cm, ar, cr, e, h1, h2, h3⟩ := a
  exact ⟨am, cm, ar, cr, e, RowsAt.ext (R := MachAt) (fun x y => MachAt.ext x y) h1 he, RowsAt.ext (R := ReelAt) (fun x y => ReelAt.ext x y) h2 he, h3.ext he⟩
theorem task_raw {t : Task} {h0 h : Heap} {am : Option Addr} {cm : Nat} {v : Value} {rs : List (List Value)} {l : List Reel} (hM : RowsAt 2 MachAt h am t.machines) (hF : FreshSl h0 h v 63 5 (catR rs) rs.length) (hn : ∀ r ∈ rs, r.length = 5) (hl : rs.length = l.length) (hR : ∀ i (h1 : i < rs.length) (h2 : i < l.length), ReelAt h rs[i] l[i]) :
    TaskAt h [i64 t.first, i64 t.days, .slice am t.machines.length cm, v] ⟨t.first, t.days, t.machines, l⟩ := by
  obtain ⟨a, rfl, hr, _⟩ := raw_of hF hn
  refine ⟨am, cm, a, rs.length, ?_, hM, hr.rows hl hR⟩
  show _ = [_, _, _, Value.slice a l.length rs.length]
  rw [hl]
theorem reel_one {h : Heap} {row : List Value} {x : Reel} (a : ReelAt h row x) : allOne row = true := by
  obtain ⟨_, _, rfl, _⟩ := a; rfl
theorem allOne_cat : ∀ {rs : List (List Value)}, (∀ r ∈ rs, allOne r = true) → allOne (catR rs) = true
  | [], _ => rfl
  | r :: rs, h => by
    have ih := allOne_cat fun x hx => h x (List.mem_cons_of_mem _ hx)
    have h1 := h r List.mem_cons_self
    unfold allOne catR at *
    rw [List.flatMap_cons, List.all_append, ih]
    show (r.all _ && true) = true
    rw [h1]; rfl
/-- The rows of reels. -/
theorem reels_raw {h : Heap} {ar : Option Addr} {l : List Reel} (hR : RowsAt 5 ReelAt h ar l) : ∃ rs, rs.length = l.length ∧ RawAt 5 h ar rs ∧ (∀ i (h1 : i < rs.length) (h2 : i < l.length), ReelAt h rs[i] l[i]) ∧ ∀ r ∈ rs, allOne r = true := by
  obtain ⟨rs, h1, h2, h3⟩ := hR.raw
  refine ⟨rs, h1, h2, h3, fun r hr => ?_⟩
  obtain ⟨i, hi, rfl⟩ := List.getElem_of_mem hr
  exact reel_one (h3 i hi (by omega))
section
variable {m : Mem} {h : Heap} {d : Option Tmp} {ty : TypeId} {pos : String} {af : Array Edge} {gu : Option (Nat × Bool)}
/-- A slice from k on. -/
theorem A_sliceFrom {t el : TypeId} {x i : Operand} {b o len cap sz k : Nat} {ki : IntKind} {y : Int} (ht : P.underlying t = some (.slice el)) (hz : tsz P el = some sz) (hx : opk h m x = some (.slice (some ⟨b, o, none⟩) len cap)) (hi : opk h m i = some (.int ki y)) (hy : y = (k : Int)) (hle : k ≤ len) (hlc : len ≤ cap) :
    Aop P ⟨d, .slice t x (some i) none none, ty, pos, af, gu⟩ m h (.slice (some ⟨b, if k < cap then o + k * sz else o, none⟩) (len - k) (cap - k)) h :=
  Aop_of fun e hs => by
    subst hy
    show pSlice P _ h e t x (some i) none none = _
    unfold pSlice
    simp only [opk_opv hs hx, opvo, opk_opv hs hi]
    have : aslice P t (.slice (some ⟨b, o, none⟩) len cap) (some (.int ki (k : Int))) none none = some (.slice (some ⟨b, if k < cap then o + k * sz else o, none⟩) (len - k) (cap - k)) := by
      have hb1 : Nat.ble len cap = true := Nat.ble_eq_true_of_le hlc
      have hb2 : Nat.ble k len = true := Nat.ble_eq_true_of_le hle
      have hb3 : Nat.ble cap cap = true := Nat.ble_eq_true_of_le (Nat.le_refl _)
      unfold aslice
      rw [ht]
      simp only
      show (match sb len cap (some (.int ki (Int.ofNat k))) none none, tsz P el with | some (l, h, m), some n => some (Value.slice (some ⟨b, @Bool.casesOn (fun _ => Nat) (Nat.beq m l) (Nat.add o (Nat.mul l n)) o, none⟩) (Nat.sub h l) (Nat.sub m l)) | _, _ => none) = _
      rw [hz]
      have c1 : bnd none cap cap = some cap := by simp only [bnd, hb3]
      have c2 : bnd none len cap = some len := by simp only [bnd, hb1]
      have c3 : bnd (some (.int ki (Int.ofNat k))) 0 len = some k := by simp only [bnd, natOf, hb2]
      simp only [sb, c1, c2, c3]
      by_cases hk : k < cap
      · have hb4 : Nat.beq cap k = false := by
          cases hq : Nat.beq cap k with
          | false => rfl
          | true => have := Nat.eq_of_beq_eq_true hq; omega
        rw [hb4, if_pos hk]; rfl
      · have hb4 : Nat.beq cap k = true := by
          have : cap = k := by omega
          rw [this]; exact Nat.beq_refl k
        rw [hb4, if_neg hk]; rfl
    simp only [this]
end
end Go.Dw
/- Z1: marks of reels; what is said of late reels, with no program in sight. -/
namespace Go.Dw
open Go Go.Dx Go.Proofs Go.Mt
/-- A number for each of n things. -/
def marks (n : Nat) (f : Nat → Int) : List Int := (List.range n).map f
theorem late_by {t : Task} (hV : Valid t) {r : Nat} (hr : r ∈ lateN t) :
    (latOf t r).by'.Pairwise (· < ·) ∧ (∀ x ∈ (latOf t r).by', ∃ b : Nat, x = (b : Int) ∧ b < t.reels.length ∧ (b : Int) ∈ keptI t ∧ (reelAt t (r : Nat)).risk ≤ (reelAt t (b : Nat)).risk) ∧
    countS t ((latOf t r).reel :: (latOf t r).by') = ((latOf t r).by'.length : Nat) ∧ r < t.reels.length ∧ (r : Int) ∉ keptI t := by
  obtain ⟨h1, h2, h3, h4, h5⟩ := late_law hV hr
  refine ⟨sorted_lt (sortI_sorted _) (sortI_nodup (ints_nodup h1)), fun x hx => ?_, ?_, h4, fun h => h3 (mem_keptI.1 h)⟩
  · have hx : x ∈ sortI (ints (byOf t r)) := hx
    obtain ⟨b, hb, rfl⟩ := List.mem_map.1 (mem_sortI.1 hx)
    obtain ⟨g1, g2⟩ := h2 b hb
    exact ⟨b, rfl, goT_lt g1, mem_keptI.2 g1, g2⟩
  · have e : countS t ((latOf t r).reel :: (latOf t r).by') = countS t ((r : Int) :: ints (byOf t r)) := countS_congr fun k => by
      show k ∈ (r : Int) :: sortI (ints (byOf t r)) ↔ _
      rw [List.mem_cons, List.mem_cons, mem_sortI]
    rw [e, h5]
    show ((byOf t r).length : Int) = ((sortI (ints (byOf t r))).length : Nat)
    rw [sortI_len, ints_len]
theorem lateL_at {t : Task} {i : Nat} (hi : i < (lateL t).length) : ∃ h : i < (lateN t).length, (lateL t)[i] = latOf t (lateN t)[i] := by
  have h : i < (lateN t).length := by unfold lateL at hi; rwa [List.length_map] at hi
  exact ⟨h, by simp only [lateL, List.getElem_map]⟩
end Go.Dw
/- Z3: RescuePlaces: its contract, for any workshop. -/
namespace Go.Dw
open Go Go.Dx Go.Proofs Go.Mt
set_option maxRecDepth 100000
theorem LatsAt.by' {h : Heap} {a : Option Addr} {l : List Lat} (hl : LatsAt h a l) {k : Nat} (hk : k < l.length) : ∃ b o oa ab cb, a = some ⟨b, o, oa⟩ ∧ cellAt h b (o + k * 2 + 0) = some (i64 l[k].reel) ∧ cellAt h b (o + k * 2 + 1) = some (.slice ab l[k].by'.length cb) ∧ SrcAt i64 h ab l[k].by' := by
  obtain ⟨b, o, oa, ab, cb, e, h1, h2, h3⟩ := hl.at hk
  exact ⟨b, o, oa, ab, cb, e, h2, cell_of_row h1 rfl, h3⟩
end Go.Dw
/- Z4: RescueMore: its contract, for any workshop, and how much more. -/
namespace Go.Dw
open Go Go.Dx Go.Proofs Go.Mt
set_option maxRecDepth 100000
def u8 (n : Int) : Value := .int .u8 n
def rRow (p : Reel × Value) : List Value := [str p.1.name, p.2, i64 p.1.ready, i64 p.1.due, i64 p.1.risk]
/-- The reels of a workshop that was built: their machines lie where they lay. -/
def RowR (h : Heap) (p : Reel × Value) : Prop := ∃ a cap, p.2 = .slice a p.1.machines.length cap ∧ IntsAt h a p.1.machines
theorem RowR.ext {h h' : Heap} {p : Reel × Value} (hp : RowR h p) (he : Ext h h') : RowR h' p := by
  obtain ⟨a, c, h1, h2⟩ := hp
  exact ⟨a, c, h1, ListAt.ext h2 he⟩
def uOf2 (t : Task) (X : List (Mach × Value)) (Y : List (Reel × Value)) : Task := ⟨t.first, t.days, X.map Prod.fst, Y.map Prod.fst⟩
end Go.Dw
/- ZB: contracts: lessOne; plain laws for RescueWithout. -/
namespace Go.Dw
open Go Go.Dx Go.Proofs Go.Mt
set_option maxRecDepth 100000
theorem lessL_take {n : Int} {l : List Int} {k : Nat} (hk : k < l.length) : lessL n (l.take (k + 1)) = lessL n (l.take k) ++ (if l[k] < n then [l[k]] else if n < l[k] then [l[k] - 1] else []) := by
  unfold lessL
  rw [take_succ hk, List.flatMap_append]
  simp
theorem lessL_len (n : Int) (l : List Int) : (lessL n l).length ≤ l.length := by
  induction l with
  | nil => exact Nat.le_refl _
  | cons a l ih =>
    unfold lessL at ih ⊢
    rw [List.flatMap_cons, List.length_append, List.length_cons]
    have : (if a < n then [a] else if n < a then [a - 1] else []).length ≤ 1 := by
      split
      · exact Nat.le_refl _
      · split
        · exact Nat.le_refl _
        · exact Nat.zero_le _
    omega
theorem lessOne_sv {a : Option Addr} {cap : Nat} {l : List Int} {n : Int} {h : Heap} (hI : IntsAt h a l) (hlen : l.length ≤ 1000) (hl : ∀ x ∈ l, 0 ≤ x ∧ x < 1000) (hn : 0 ≤ n) :
    Sv Tryz.prog 36 [.slice a l.length cap, i64 n] h (RetP fun v h' => FreshSl h h' v 3 1 ((lessL n l).map i64) (lessL n l).length ∧ Ext h h') := by
  refine Sv_wf fun hw => ?_
  refine Sv_enter Tryz.func36 rfl (by rw [Tryz.ntmps36]; rfl) ?_; show Wc Tryz.prog ⟨36, 41, none⟩ _ _ _ _ _
  refine zz ?_
  refine Wc_loop (fun (k : Nat) m ds h' => ds = [] ∧ k ≤ l.length ∧ Ext h h' ∧ ∃ (v : Value), FreshSl h h' v 3 1 ((lessL n (l.take k)).map i64) (lessL n (l.take k)).length ∧ AllK m [(0, .slice a l.length cap), (1, i64 n), (5, v), (6, i64 k)])
    (fun k => l.length - k) 0 ?_ ?_
  · exact ⟨rfl, Nat.zero_le _, Ext.refl _, _, FreshSl.nil _ _ _ _, rfl, rfl, rfl, rfl, trivial⟩
  rintro k m ds h1 ⟨rfl, hk, hE, v, hF, hall⟩
  refine Wc.le ?_ (Le.kn hall)
  refine zz ?_
  refine Wo_dec rfl rfl rfl rfl (A_lss rfl rfl) (fun hkq => ?_) (fun hkq => ?_)
  rotate_left
  · have hk2 : k = l.length := by omega
    subst hk2
    rw [List.take_length] at hF
    refine zz ?_
    exact Wc_ret (Lv_ret rfl ⟨hF, hE⟩)
  have hk' : k < l.length := by omega
  obtain ⟨b, o, oa, rfl, hc⟩ := (hI.ext hE) k hk'
  have hx := hl _ (List.getElem_mem hk')
  have hll := lessL_len n (l.take k)
  rw [List.length_take] at hll
  have hs := lessL_take (n := n) hk'
  refine zz ?_
  refine Wo_do rfl rfl rfl rfl (A_ix Und.h Tsz.h rfl rfl) ?_
  refine zz ?_
  by_cases c1 : l[k] < n
  · rw [if_pos c1] at hs
    refine Wo_do rfl rfl rfl rfl (A_tt c1 (A_lss rfl rfl)) ?_
    refine zz ?_
    refine Wo_do rfl rfl rfl rfl (A_ix Und.h Tsz.h rfl rfl) ?_
    refine zz ?_
    refine Wo_bs rfl rfl Und.h Tsz.h Zr.h rfl rfl rfl rfl rfl fun h2 hE2 hW2 hg2 hx2 => ?_
    refine zz ?_
    refine Wo_appendF (by' := 8) (k := 1) (n := (lessL n (l.take k)).length) (l := [i64 l[k]]) hw (hE.trans hE2) rfl rfl rfl rfl rfl Und.h inferInstance rfl rfl (hF.ext hE2) ((FreshSl.lit (h0 := h) (n := 1) (sz := 1) (cs := [i64 l[k]]) hg2 rfl hE.2.1).src (dd := .slice 3) Und.h (by intro k; simp)) rfl rfl (by omega) (by omega) fun v3 h3 hF3 hE3 hK3 hx3 hv3 => ?_
    have hc3 := (hI.ext hE3) k hk'
    obtain ⟨b', o', oa', e', hc3⟩ := hc3
    cases e'
    refine zz ?_
    refine Wo_do rfl rfl rfl rfl (A_ix Und.h Tsz.h rfl rfl) ?_
    refine zz ?_
    refine Wo_do rfl rfl rfl rfl (A_ff (by omega) (A_gtr rfl rfl)) ?_
    refine zz ?_
    exact ⟨k + 1, (by show l.length - (k + 1) < l.length - k; omega), rfl, hk', hE3, v3, (by rw [hs, List.map_append, List.length_append]; exact hF3), rfl, rfl, rfl, rfl, trivial⟩
  rw [if_neg c1] at hs
  refine Wo_do rfl rfl rfl rfl (A_ff c1 (A_lss rfl rfl)) ?_
  refine zz ?_
  refine Wo_do rfl rfl rfl rfl (A_ix Und.h Tsz.h rfl rfl) ?_
  refine zz ?_
  by_cases c2 : n < l[k]
  · rw [if_pos c2] at hs
    refine Wo_do rfl rfl rfl rfl (A_tt c2 (A_gtr rfl rfl)) ?_
    refine zz ?_
    refine Wo_do rfl rfl rfl rfl (A_ix Und.h Tsz.h rfl rfl) ?_
    refine zz ?_
    refine Wo_bs rfl rfl Und.h Tsz.h Zr.h rfl rfl rfl rfl rfl fun h2 hE2 hW2 hg2 hx2 => ?_
    refine zz ?_
    refine Wo_appendF (by' := 8) (k := 1) (n := (lessL n (l.take k)).length) (l := [i64 (l[k] - 1)]) hw (hE.trans hE2) rfl rfl rfl rfl rfl Und.h inferInstance rfl rfl (hF.ext hE2) ((FreshSl.lit (h0 := h) (n := 1) (sz := 1) (cs := [i64 (l[k] - 1)]) hg2 rfl hE.2.1).src (dd := .slice 3) Und.h (by intro k; simp)) rfl rfl (by omega) (by omega) fun v3 h3 hF3 hE3 hK3 hx3 hv3 => ?_
    refine zz ?_
    exact ⟨k + 1, (by show l.length - (k + 1) < l.length - k; omega), rfl, hk', hE3, v3, (by rw [hs, List.map_append, List.length_append]; exact hF3), rfl, rfl, rfl, rfl, trivial⟩
  rw [if_neg c2, List.append_nil] at hs
  refine Wo_do rfl rfl rfl rfl (A_ff c2 (A_gtr rfl rfl)) ?_
  refine zz ?_
  exact ⟨k + 1, (by show l.length - (k + 1) < l.length - k; omega), rfl, hk', hE, v, (by rw [hs]; exact hF), rfl, rfl, rfl, rfl, trivial⟩
theorem late_small {t : Task} (hV : Valid t) {r : Nat} (hr : r ∈ lateN t) : (latOf t r).by'.length ≤ 24 ∧ ∀ x ∈ (latOf t r).by', 0 ≤ x ∧ x < 1000 := by
  obtain ⟨hpb, hby, _, hrl, _⟩ := late_by hV hr
  have hr1 := hV.r1
  generalize (latOf t r).by' = B at *
  refine ⟨?_, fun x hx => by obtain ⟨b, rfl, hb, _⟩ := hby x hx; omega⟩
  have h1 : B.Nodup := hpb.imp fun h => by omega
  have := nodup_le (l := natsL B) (m := List.range t.reels.length) (natsL_nodup h1 fun x hx => by obtain ⟨b, rfl, _⟩ := hby x hx; omega) fun x hx => by
    obtain ⟨y, hy, rfl⟩ := List.mem_map.1 hx
    obtain ⟨b, rfl, hb, _⟩ := hby y hy
    rw [List.mem_range]; simpa using hb
  rw [List.length_range] at this
  unfold natsL at this
  rw [List.length_map] at this
  omega
/-! ### without a reel -/
def lessT (t : Task) (n : Nat) : Task := ⟨t.first, t.days, t.machines, t.reels.take n ++ t.reels.drop (n + 1)⟩
theorem lessT_len {t : Task} {n : Nat} (hn : n < t.reels.length) : (lessT t n).reels.length + 1 = t.reels.length := by
  unfold lessT
  simp only [List.length_append, List.length_take, List.length_drop]
  omega
theorem lessT_sub (t : Task) (n : Nat) : (lessT t n).reels.Sublist t.reels := by
  conv => rhs; rw [← List.take_append_drop n t.reels]
  refine (List.Sublist.refl _).append ?_
  rw [← List.drop_drop]
  exact List.drop_sublist _ _
theorem namesOk_sub : ∀ {l l' b b' : List (List UInt8)}, namesOk b l → l'.Sublist l → (∀ x ∈ b', x ∈ b) → namesOk b' l'
  | _, _, _, _, _, .slnil, _ => trivial
  | s :: l, l', b, b', h, .cons _ hs, hb => namesOk_sub h.2 hs fun x hx => List.mem_append_left _ (hb x hx)
  | s :: l, _ :: l', b, b', h, .cons_cons _ hs, hb => by
    refine ⟨?_, namesOk_sub h.2 hs fun x hx => ?_⟩
    · have h1 := h.1
      unfold nameErr at h1 ⊢
      split at h1
      · cases h1
      · rename_i h2
        rw [if_neg h2]
        split at h1
        · cases h1
        · rename_i h3
          rw [if_neg fun hm => h3 (hb s hm)]
    · rcases List.mem_append.1 hx with g | g
      · exact List.mem_append_left _ (hb x g)
      · exact List.mem_append_right _ g
theorem lessT_err {t : Task} {n : Nat} (h : errS t = 0) : errS (lessT t n) = 0 := by
  have hE := errS_iff.1 h
  have hs := lessT_sub t n
  refine errS_iff.2 ⟨hE.first, hE.days, hE.last, hE.ms, Nat.le_trans hs.length_le hE.rs, hE.mn, hE.me, namesOk_sub hE.rn (hs.map _) fun _ hx => hx, fun r hr => hE.re r (hs.subset hr)⟩
theorem lessT_less {t : Task} {n : Nat} (hn : n < t.reels.length) : Less t (lessT t n) n := by
  refine ⟨rfl, rfl, rfl, hn, lessT_len hn, fun k hk => ?_⟩
  have h1 := lessT_len hn
  rw [reelAt_nat hk, reelAt_nat (by unfold up; split <;> omega)]
  have e : ∀ (j : Nat) (hj : j < t.reels.length), up n k = j → (t.reels.take n ++ t.reels.drop (n + 1))[k]? = some t.reels[j] := fun j hj hu => by
    unfold up at hu
    by_cases g : k < n
    · rw [if_pos g] at hu
      subst hu
      rw [List.getElem?_append_left (by rw [List.length_take]; omega), List.getElem?_take, if_pos g, List.getElem?_eq_getElem hj]
    · rw [if_neg g] at hu
      subst hu
      rw [List.getElem?_append_right (by rw [List.length_take]; omega), List.length_take, List.getElem?_drop, show n + 1 + (k - min n t.reels.length) = k + 1 by omega, List.getElem?_eq_getElem hj]
  have h2 := e _ (by unfold up; split <;> omega) rfl
  have h3 : (lessT t n).reels[k]? = some (lessT t n).reels[k] := List.getElem?_eq_getElem hk
  exact Option.some.inj (h3.symm.trans h2)
theorem Own.both {h0 h : Heap} {l : List It} {x y : It} (h1 : Own h0 h (x :: l)) (h2 : Own h0 h (y :: l)) (hn : ∀ c, x.S c → ¬ y.S c) : Own h0 h (x :: y :: l) := by
  refine ⟨fun z hz => ?_, fun z hz => ?_, List.pairwise_cons.2 ⟨fun z hz => ?_, h2.ap⟩⟩
  · rcases List.mem_cons.1 hz with rfl | g
    · exact h1.p1
    · exact h2.has z g
  · rcases List.mem_cons.1 hz with rfl | g
    · exact h1.lo _ List.mem_cons_self
    · exact h2.lo z g
  · rcases List.mem_cons.1 hz with rfl | g
    · exact hn
    · exact (List.pairwise_cons.1 h1.ap).1 z g
theorem raw_from {h : Heap} {b o cr n : Nat} {rs : List (List Value)} (hr : RawAt 5 h (some ⟨b, o, none⟩) rs) (hn : n < rs.length) (hc : rs.length ≤ cr) : RawAt 5 h (some ⟨b, if n + 1 < cr then o + (n + 1) * 5 else o, none⟩) (rs.drop (n + 1)) ∧ (rs.drop (n + 1) = [] → SrcZ h (some ⟨b, if n + 1 < cr then o + (n + 1) * 5 else o, none⟩)) := by
  obtain ⟨b', o', oa', e, h1⟩ := hr.at hn
  cases e
  by_cases c : n + 1 < cr
  · rw [if_pos c]
    exact ⟨hr.drop _, fun _ => .inr (.inr ⟨b, _, none, rfl, rowAt_end h1 (by omega) (by omega) rfl⟩)⟩
  · rw [if_neg c]
    have e : rs.drop (n + 1) = [] := List.drop_eq_nil_iff.2 (by omega)
    rw [e]
    obtain ⟨b', o', oa', e, h2⟩ := hr.at (i := 0) (by omega)
    cases e
    exact ⟨fun i hi => absurd hi (Nat.not_lt_zero _), fun _ => .inr (.inr ⟨b, o, none, rfl, rowAt_end h2 (by omega) (by omega) rfl⟩)⟩
theorem raw_to {h : Heap} {b o : Nat} {rs : List (List Value)} (hr : RawAt 5 h (some ⟨b, o, none⟩) rs) (hn : 0 < rs.length) : SrcZ h (some ⟨b, o, none⟩) := by
  obtain ⟨b', o', oa', e, h2⟩ := hr.at hn
  cases e
  exact .inr (.inr ⟨b, o, none, rfl, rowAt_end h2 (by omega) (by omega) rfl⟩)
theorem rows_less {h : Heap} {rs : List (List Value)} {l : List Reel} (hl : rs.length = l.length) (hR : ∀ i (h1 : i < rs.length) (h2 : i < l.length), ReelAt h rs[i] l[i]) {n : Nat} (hn : n < l.length) : ∀ i (h1 : i < (rs.take n ++ rs.drop (n + 1)).length) (h2 : i < (l.take n ++ l.drop (n + 1)).length), ReelAt h (rs.take n ++ rs.drop (n + 1))[i] (l.take n ++ l.drop (n + 1))[i] := fun i h1 h2 => by
  simp only [List.length_append, List.length_take, List.length_drop] at h1 h2
  by_cases e : i < n
  · rw [List.getElem_append_left (by rw [List.length_take]; omega), List.getElem_append_left (by rw [List.length_take]; omega), List.getElem_take, List.getElem_take]
    exact hR i (by omega) (by omega)
  · rw [List.getElem_append_right (by rw [List.length_take]; omega), List.getElem_append_right (by rw [List.length_take]; omega), List.getElem_drop, List.getElem_drop]
    have e1 : n + 1 + (i - (rs.take n).length) = i + 1 := by rw [List.length_take]; omega
    have e2 : n + 1 + (i - (l.take n).length) = i + 1 := by rw [List.length_take]; omega
    simp only [e1, e2]
    exact hR (i + 1) (by omega) (by omega)
set_option maxHeartbeats 8000000 in
theorem rescueWithout_sv {tc : List Value} {t : Task} {wh : Int} {h : Heap} (ht : TaskP h tc t) (hf : t.Fit) (hwh : 0 ≤ wh ∧ wh ≤ 255) :
    Sv Tryz.prog 13 [.agg ⟨tc⟩, .int .u8 wh] h (RetP fun v h' => v = .bool true ∧ Ext h h') := by
  have ht0 := ht.at
  obtain ⟨am, cm, ar, cr, rfl, hM, hR, hP⟩ := ht
  obtain ⟨rs, hrl, hraw, hrr, hr1⟩ := reels_raw hR
  obtain ⟨hl1, hl2, hl3⟩ := plan_lens t
  refine Sv_wf fun hw => ?_
  refine Sv_enter Tryz.func13 rfl (by rw [Tryz.ntmps13]; rfl) ?_; show Wc Tryz.prog ⟨13, 143, none⟩ _ _ _ _ _
  refine zz ?_
  refine Wo_box rfl rfl rfl fun h1 hE1 hW1 hg1 hn1 => ?_
  generalize h.nx = b2 at *
  refine zz ?_
  refine Wo_callr rfl rfl rfl rfl rfl Bod.h rfl rfl (rescuePlan_sv (ht0.ext hE1) hf) ?_
  rintro _ h3 ⟨⟨a, al, rfl, hT, hL⟩, hE3⟩
  replace hg1 := hE3.get hg1
  replace hE1 := hE1.trans hE3
  clear hE3 hW1 hn1
  clear h1
  refine zz ?_
  by_cases c0 : errS t = 0
  rotate_left
  · rw [planS_bad c0]
    refine Wo_do rfl rfl rfl rfl (A_tt c0 (A_neq rfl rfl)) ?_
    refine zz ?_
    refine Wo_callV rfl rfl rfl rfl rfl Bod.h rfl rfl (awake_sv _) ?_
    refine zz ?_
    exact Wc_ret (Lv_ret rfl ⟨rfl, hE1⟩)
  have hV := valid_of c0
  have hr24 := hV.r1
  rw [planS_ok c0] at hT hL hl1 hl2 hl3 ⊢
  replace hl1 : (turnsG t (keptS t)).length ≤ 24 := hl1
  replace hl2 : (lateL t).length ≤ 24 := hl2
  replace hT : TurnsAt h3 a (turnsG t (keptS t)) := hT
  replace hL : LatsAt h3 al (lateL t) := hL
  refine Wo_do rfl rfl rfl rfl (A_ff (fun x => x rfl) (A_neq rfl rfl)) ?_
  refine zz ?_
  by_cases c1 : (lateL t).length = 0
  · refine Wo_do rfl rfl rfl rfl (A_tt (show (((lateL t).length : Nat) : Int) = 0 by omega) (A_eql rfl rfl)) ?_
    refine zz ?_
    refine Wo_callV rfl rfl rfl rfl rfl Bod.h rfl rfl (awake_sv _) ?_
    refine zz ?_
    exact Wc_ret (Lv_ret rfl ⟨rfl, hE1⟩)
  refine Wo_do rfl rfl rfl rfl (A_ff (show ¬ (((lateL t).length : Nat) : Int) = 0 by omega) (A_eql rfl rfl)) ?_
  obtain ⟨q, hqe, hql⟩ : ∃ q : Nat, (IntKind.i64.wrap wh).tmod ((lateL t).length : Nat) = (q : Int) ∧ q < (lateL t).length := by
    rw [IntWalk.i64_in _ (by omega)]
    have a1 := Int.tmod_nonneg (((lateL t).length : Nat) : Int) hwh.1
    have a2 := Int.tmod_lt_of_pos wh (show (0 : Int) < (((lateL t).length : Nat) : Int) by omega)
    exact ⟨(wh.tmod ((lateL t).length : Nat)).toNat, by omega, by omega⟩
  obtain ⟨hqN, hLq⟩ := lateL_at hql
  obtain ⟨_, _, _, hnl, hnk⟩ := late_by hV (List.getElem_mem hqN)
  obtain ⟨n, hne⟩ : ∃ n, n = (lateN t)[q] := ⟨_, rfl⟩
  rw [← hne] at hLq hnl hnk
  have hnq : (lateL t)[q].reel = (n : Int) := by rw [hLq]; rfl
  have hng : n ∉ (goT t).1 := fun hm => hnk (mem_keptI.2 hm)
  obtain ⟨bl, ol, oal, abl, cbl, rfl, hcr, -, -⟩ := hL.by' hql
  rw [hnq] at hcr
  refine zz ?_
  refine Wo_do rfl rfl rfl rfl (A_conv ⟨_, Und.h⟩ Und.h rfl) ?_
  refine zz ?_
  refine Wo_do rfl rfl rfl rfl (A_rem rfl rfl (show (((lateL t).length : Nat) : Int) ≠ 0 by omega)) ?_
  refine zz ?_
  refine Wo_do rfl rfl rfl rfl (A_ix (k := q) Und.h Tsz.h rfl (congrArg (fun z => some (i64 z)) hqe) hql) ?_
  refine zz ?_
  refine Wo_do rfl rfl rfl rfl (A_ff (show ¬ ((n : Int) < 0) by omega) (A_lss rfl rfl)) ?_
  refine zz ?_
  refine Wo_do rfl rfl rfl rfl (A_ff (show ¬ ((n : Int) ≥ (t.reels.length : Nat)) by omega) (A_geq rfl rfl)) ?_
  refine zz ?_
  refine Wo_wf fun hw3 => ?_
  have hb2 : b2 < h3.nx := hw3 _ _ hg1
  have hg10 := hg1
  refine Wo_allocStore rfl rfl Zr.h Tsz.h rfl (fun _ => rfl) rfl rfl rfl fun h4 hE4 hW4 hg4 hn4 => ?_
  replace hg1 := hE4.get hg1
  have hE0 := hE1
  replace hE1 := hE1.trans hE4
  generalize hbue : h3.nx = bu at *
  have hbu4 : bu < h4.nx := hW4 _ _ hg4
  obtain ⟨bR, oR, oaR, rfl, _⟩ := hraw.at (i := n) (by omega)
  have hoa := hP.plain _ _ _ rfl (by intro e; rw [e] at hnl; exact absurd hnl (Nat.not_lt_zero _))
  subst hoa
  have hraw4 := hraw.ext hE1
  have hEa : Ext h4 (Heap.add h4 (.cells [] 63 false)) := Ext.add hW4 _
  have hg1a := hEa.get hg1
  have hg4a := hEa.get hg4
  have hcle := hP.le
  have hsrc := ((hraw4.ext hEa).take n).src (P := Tryz.prog) (cap := cr) (el := 63) (tX := 23) (dd := .slice 63) (by decide) (fun _ => raw_to (hraw4.ext hEa) (by omega)) Und.h (by intro k; simp)
  have htl : (rs.take n).length = n := by rw [List.length_take]; omega
  have hdl : (rs.drop (n + 1)).length = t.reels.length - (n + 1) := by rw [List.length_drop]; omega
  rw [htl] at hsrc
  have hlt : ∀ r ∈ rs.take n, r.length = 5 := fun r hr => hraw.len r (List.mem_of_mem_take hr)
  have hld : ∀ r ∈ rs.drop (n + 1), r.length = 5 := fun r hr => hraw.len r (List.mem_of_mem_drop hr)
  refine zz ?_
  refine Wc_draw hmix [0, 0, 2, 0, 14, 31, 0, 64, 0, 256, 960, 2047, 4095, 8191] [0, 1, 2, 3, 4, 6, 7, 8, 9, 10] (some 5) [([], (some 11)), ([12], (some 13)), ([], none)] (by kernel_rfl) (by kernel_rfl) ?_
  refine Wp_new (nk := .sl _ _) rfl rfl rfl rfl rfl (fun _ _ hs => N_bs hs Und.h Tsz.h Zr.h rfl rfl rfl rfl rfl) ?_
  refine z_f ?_; refine z_l ?_; refine z_m ?_; refine Wp_pure rfl rfl rfl rfl rfl (fun _ => A_sliceTo (k := n) Und.h Tsz.h rfl rfl rfl (by omega)) ?_; refine z_f ?_; refine z_l ?_; refine z_m ?_; refine z_y ?_; refine Wp_pure rfl rfl rfl rfl rfl (fun _ => A_sliceFrom (k := n + 1) Und.h Tsz.h rfl rfl rfl (by omega) (by omega)) ?_
  refine Wp_eff (h1 := (Heap.add h4 _)) [0, 1, 2, 3, 4] (by kernel_rfl) rfl (Stl_nil rfl) rfl rfl rfl (W1_wfK (W1_appendF (by' := 64) (sz := 5) (k := n) (n := 0) (l := catR (rs.take n)) rfl hW4 (hW4.add _) hEa rfl rfl rfl rfl Und.h inferInstance rfl rfl (FreshSl.lit (n := 0) (sz := 5) (cs := []) Heap.get_add_same rfl (Nat.le_refl _)) hsrc (by rw [catR_len hlt, htl]) (allOne_cat fun r hr => hr1 r (List.mem_of_mem_take hr)) (by omega) (by omega) (fun v5 h5 hF5 hE5 hK5 hx5 hv5 hw5 => ?_)))
  rw [List.nil_append, Nat.zero_add] at hF5
  have hg15 := hE5.get hg1
  have hg45 := hE5.get hg4
  obtain ⟨hrd, hzd⟩ := raw_from (cr := cr) (hraw4.ext hE5) (show n < rs.length by omega) (by omega)
  have hsrc2 := hrd.src (P := Tryz.prog) (cap := cr - (n + 1)) (el := 63) (tX := 23) (dd := .slice 63) (by decide) hzd Und.h (by intro k; simp)
  rw [hdl] at hsrc2
  refine Wp_eff (h1 := h5) [0, 1, 2, 3, 4, 5, 6, 7, 8, 9, 10] (by kernel_rfl) rfl (by refine Stl_pure (i := 10) rfl rfl rfl rfl rfl (fun _ => A_sliceFrom (k := n + 1) Und.h Tsz.h rfl rfl rfl (by omega) (by omega)) rfl ?_; refine t_y 9 ?_; refine t_m 8 ?_; refine t_l 7 ?_; refine t_f 6 ?_; exact Stl_nil rfl) rfl rfl rfl (W1_wfK (W1_appendF (by' := 64) (sz := 5) (k := t.reels.length - (n + 1)) (n := n) (l := catR (rs.drop (n + 1))) rfl hW4 hw5 hE5 rfl rfl rfl rfl Und.h inferInstance rfl rfl hF5 hsrc2 (by rw [catR_len hld, hdl]) (allOne_cat fun r hr => hr1 r (List.mem_of_mem_drop hr)) (by omega) (by omega) (fun v6 h6 hF6 hE6 hK6 hx6 hv6 hw6 => ?_)))
  have hlen1 : (rs.take n ++ rs.drop (n + 1)).length = n + (t.reels.length - (n + 1)) := by rw [List.length_append, htl, hdl]
  rw [← catR_append, ← hlen1] at hF6
  obtain ⟨a6, rfl, _, _⟩ := hF6.is
  have hgu := hE6.get hg4
  have hg16 := hE6.get hg1
  refine z_f ?_
  refine Wp_eff (h1 := h6) [0, 1, 2, 3, 4, 5, 6, 7, 8, 9, 10, 11, 12] (by kernel_rfl) rfl (Stl_nil rfl) rfl rfl rfl (W1_wfK (W1_store rfl rfl Tsz.h rfl rfl hgu rfl rfl rfl (fun h7 hU7 hw7 => ?_)))
  refine Wp_end (h1 := h7) (Stl_nil rfl) rfl ?_
  have hE37 : Ext h3 h7 := hU7.ext (hE4.trans hE6) hw3 (Nat.le_of_eq hbue)
  have hF7 := (hF6.updL hU7 hbu4).base (h0 := h3) hE4.2.1
  have hE07 := hE0.trans hE37
  have hgu7 := hU7.at'
  have hUT : TaskAt h7 [i64 t.first, i64 t.days, .slice am t.machines.length cm, .slice a6 (rs.take n ++ rs.drop (n + 1)).length (rs.take n ++ rs.drop (n + 1)).length] (lessT t n) :=
    task_raw (RowsAt.ext (R := MachAt) (fun x y => MachAt.ext x y) hM hE07) hF7 (fun r hr => by
      rcases List.mem_append.1 hr with g | g
      · exact hlt r g
      · exact hld r g) (by rw [List.length_append, List.length_append, List.length_take, List.length_drop, List.length_take, List.length_drop, hrl]) fun i h1 h2 => (rows_less hrl hrr hnl i h1 h2).ext hE07
  have hsub := lessT_sub t n
  have hUF : (lessT t n).Fit := ⟨hf.first, hf.days, hf.ms, (by show (lessT t n).reels.length < _; have := hsub.length_le; omega), hf.msF, fun r hr => hf.rsF r (hsub.subset hr)⟩
  have c2 := lessT_err (n := n) c0
  have hUV := valid_of c2
  have hL7 := lessT_less hnl
  have htw := turns_without hL7 hng
  have hlw := late_without hL7 hng
  obtain ⟨hk1, hk2, hk3⟩ := plan_lens (lessT t n)
  rw [planS_ok c2] at hk1 hk2 hk3
  replace hk1 : (turnsG (lessT t n) (keptS (lessT t n))).length ≤ 24 := hk1
  replace hk2 : (lateL (lessT t n)).length ≤ 24 := hk2
  replace hk3 : ∀ x ∈ lateL (lessT t n), x.Fit := hk3
  replace hT := hT.ext hE37
  replace hL := hL.ext hE37
  clear hU7 hF7 hF6 hE6 hgu hg16 hF5 hE5 hK5 hK6 hv5 hv6 hx5 hx6 hg15 hg45 hsrc hsrc2 hzd hrd hEa hg1a hg4a hg1 hw5 hw6 hraw4 hg4 hW4 hn4 hE4 hE1 hlt hld htl hdl hcr
  refine zz ?_
  refine Wo_callr rfl rfl rfl rfl rfl Bod.h rfl rfl (rescuePlan_sv hUT hUF) ?_
  rintro _ h8 ⟨⟨a2, al2, rfl, hT2, hL2⟩, hE8⟩
  rw [planS_ok c2] at hT2 hL2 ⊢
  replace hT2 : TurnsAt h8 a2 (turnsG (lessT t n) (keptS (lessT t n))) := hT2
  replace hL2 : LatsAt h8 al2 (lateL (lessT t n)) := hL2
  replace hT := hT.ext hE8
  replace hL := hL.ext hE8
  replace hE07 := hE07.trans hE8
  refine Wo_wf fun hw8 => ?_
  have hTf := plan_turns_fit hV
  show Wo _ _ _ (_ :: _) _ _ _ _
  refine zz ?_
  refine Wo_do rfl rfl rfl rfl (A_ff (fun x => x rfl) (A_neq rfl rfl)) ?_
  refine zz ?_
  generalize turnsG t (keptS t) = T at *
  refine Wc_loop (fun (i : Nat) m ds h' => ds = [] ∧ i ≤ T.length ∧ Ext h8 h' ∧ ∃ v, Own h8 h' [slI h8 v 59 3 (((T.take i).map (dnT n)).flatMap tRow) ((T.take i).map (dnT n)).length] ∧
      AllK m [(5, .slice a T.length T.length), (6, .slice (some ⟨bl, ol, oal⟩) (lateL t).length (lateL t).length), (8, i64 n), (10, .slice a2 (turnsG (lessT t n) (keptS (lessT t n))).length (turnsG (lessT t n) (keptS (lessT t n))).length), (11, .slice al2 (lateL (lessT t n)).length (lateL (lessT t n)).length), (12, v), (13, i64 i)]) (fun i => T.length - i) 0 ?_ ?_
  · exact ⟨rfl, Nat.zero_le _, Ext.refl _, _, (Own.nil h8 h8).nilSl 59 3, rfl, rfl, rfl, rfl, rfl, rfl, rfl, trivial⟩
  rintro i m ds h9 ⟨rfl, hi, hE9, v, hO, hall⟩
  refine Wc_wf fun hw9 => ?_
  refine Wc.le ?_ (Le.kn hall)
  refine zz ?_
  refine Wo_dec rfl rfl rfl rfl (A_lss rfl rfl) (fun hip => ?_) (fun hip => ?_)
  · have hi' : i < T.length := by omega
    obtain ⟨bt, ot, oat, rfl, hrow, _⟩ := (hT.ext hE9).at hi'
    have htf := (hTf _ (List.getElem_mem hi')).reel
    have htf1 : -9223372036854775808 ≤ T[i].reel := htf.1
    have htf2 : T[i].reel ≤ 9223372036854775807 := by have := htf.2; omega
    have htk : ((T.take (i + 1)).map (dnT n)) = ((T.take i).map (dnT n)) ++ [dnT n T[i]] := by rw [take_succ hi', List.map_append]; rfl
    have hlT : ((T.take i).map (dnT n)).length = i := by rw [List.length_map, List.length_take]; omega
    refine zz ?_
    refine Wo_do rfl rfl rfl rfl (A_ix Und.h Tsz.h rfl rfl) ?_
    refine zz ?_
    refine Wo_allocStore rfl rfl Zr.h Tsz.h rfl (fun _ => rfl) rfl rfl rfl fun g1 hX1 hV1 hgx hnx => ?_
    have hO1 := hO.newCe hw9 hE9.2.1 hX1 hgx (Nat.le_refl _)
    have hEX := hE9.trans hX1
    generalize h9.nx = bx at *
    clear hX1 hnx hO hrow hw9
    refine zz ?_
    by_cases c3 : (n : Int) < T[i].reel
    · refine Wo_do rfl rfl rfl rfl (A_tt c3 (A_gtr rfl rfl)) ?_
      refine zz ?_
      refine Wo_storeO hw8 hEX rfl Tsz.h rfl rfl hO1 rfl rfl rfl fun g2 hV2 hO2 hEX2 => ?_
      have hgx2 : g2.get bx = _ := hO2.p1
      refine zz ?_
      refine Wo_bs rfl rfl Und.h Tsz.h Zr.h rfl rfl rfl rfl rfl fun g3 hX3 hV3 hg3 hx3 => ?_
      refine zz ?_
      refine Wo_appendO (by' := 24) (sz := 3) (k := 1) (n := ((T.take i).map (dnT n)).length) (l := [i64 (T[i].reel - 1), i64 T[i].machine, i64 T[i].day]) hw8 (hEX2.trans hX3) rfl rfl rfl rfl rfl Und.h inferInstance rfl rfl (hO2.ext hX3).up2 ((FreshSl.lit (h0 := h8) (n := 1) (sz := 3) hg3 rfl hEX2.2.1).src (dd := .slice 59) Und.h (by intro k; simp)) rfl rfl (by omega) (by omega) fun v4 g4 hV4 hO4 hEX4 => ?_
      refine zz ?_
      refine ⟨i + 1, (by show T.length - (i + 1) < T.length - i; omega), rfl, hi', hEX4, v4, ?_, rfl, rfl, rfl, rfl, rfl, rfl, rfl, trivial⟩
      rw [htk, List.flatMap_append, List.length_append]
      have e : [dnT n T[i]].flatMap tRow = [i64 (T[i].reel - 1), i64 T[i].machine, i64 T[i].day] := by simp [tRow, dnT, c3]
      rw [e]
      exact hO4.sub (.cons_cons _ (.cons _ .slnil))
    · refine Wo_do rfl rfl rfl rfl (A_ff c3 (A_gtr rfl rfl)) ?_
      refine zz ?_
      refine Wo_bs rfl rfl Und.h Tsz.h Zr.h rfl rfl rfl rfl rfl fun g3 hX3 hV3 hg3 hx3 => ?_
      refine zz ?_
      refine Wo_appendO (by' := 24) (sz := 3) (k := 1) (n := ((T.take i).map (dnT n)).length) (l := [i64 T[i].reel, i64 T[i].machine, i64 T[i].day]) hw8 (hEX.trans hX3) rfl rfl rfl rfl rfl Und.h inferInstance rfl rfl (hO1.ext hX3).up2 ((FreshSl.lit (h0 := h8) (n := 1) (sz := 3) hg3 rfl hEX.2.1).src (dd := .slice 59) Und.h (by intro k; simp)) rfl rfl (by omega) (by omega) fun v4 g4 hV4 hO4 hEX4 => ?_
      refine zz ?_
      refine ⟨i + 1, (by show T.length - (i + 1) < T.length - i; omega), rfl, hi', hEX4, v4, ?_, rfl, rfl, rfl, rfl, rfl, rfl, rfl, trivial⟩
      rw [htk, List.flatMap_append, List.length_append]
      have e : [dnT n T[i]].flatMap tRow = [i64 T[i].reel, i64 T[i].machine, i64 T[i].day] := by simp [tRow, dnT, c3]
      rw [e]
      exact hO4.sub (.cons_cons _ (.cons _ .slnil))
  have hii : i = T.length := by omega
  subst hii
  rw [List.take_length] at hO
  obtain ⟨aw, rfl, hTw⟩ := turns_of (show FreshSl h8 h9 v 59 3 ((T.map (dnT n)).flatMap tRow) (T.map (dnT n)).length from hO.p1)
  replace hL := hL.ext hE9
  replace hL2 := hL2.ext hE9
  replace hT2 := hT2.ext hE9
  replace hE07 := hE07.trans hE9
  have hO0 := ((Own.nil h9 h9).new (y := lvI h9 []) hw9 (Nat.le_refl _) (Ext.refl _) (fun _ hp => nomatch hp) (fun c hc => by obtain ⟨p, hp, _⟩ := hc; cases hp)).nilSl 61 2
  refine zz ?_
  refine Wc_loop (fun (j : Nat) m ds h' => ds = [] ∧ j ≤ (lateL t).length ∧ Ext h9 h' ∧ ∃ (v : Value) (Z : List (Lat × Value)), Z.map Prod.fst = (((lateL t).take j).filter fun x => decide (x.reel ≠ (n : Int))).map (dnL n) ∧ Own h9 h' [slI h9 v 61 2 (Z.flatMap latRow) Z.length, lvI h9 Z] ∧
      AllK m [(6, .slice (some ⟨bl, ol, oal⟩) (lateL t).length (lateL t).length), (8, i64 n), (10, .slice a2 (turnsG (lessT t n) (keptS (lessT t n))).length (turnsG (lessT t n) (keptS (lessT t n))).length), (11, .slice al2 (lateL (lessT t n)).length (lateL (lessT t n)).length), (12, .slice aw (T.map (dnT n)).length (T.map (dnT n)).length), (15, v), (16, i64 j)]) (fun j => (lateL t).length - j) 0 ?_ ?_
  · exact ⟨rfl, Nat.zero_le _, Ext.refl _, _, [], rfl, hO0, rfl, rfl, rfl, rfl, rfl, rfl, rfl, trivial⟩
  clear hO0 hO hall hip hi hT
  rintro j m ds g0 ⟨rfl, hj, hEg, v, Z, hZ, hO, hall⟩
  refine Wc_wf fun hwg => ?_
  refine Wc.le ?_ (Le.kn hall)
  have hZl : Z.length ≤ j := by
    have := congrArg List.length hZ
    rw [List.length_map, List.length_map] at this
    have h2 := List.length_filter_le (fun x : Lat => decide (x.reel ≠ (n : Int))) ((lateL t).take j)
    rw [List.length_take] at h2
    omega
  refine zz ?_
  refine Wo_dec rfl rfl rfl rfl (A_lss rfl rfl) (fun hjp => ?_) (fun hjp => ?_)
  rotate_left
  · have hjj : j = (lateL t).length := by omega
    subst hjj
    rw [List.take_length, ← hlw] at hZ
    obtain ⟨ar2, rfl, hZL⟩ := lats_of (show FreshSl h9 g0 v 61 2 (Z.flatMap latRow) Z.length from hO.p1) hO.p2
    rw [hZ] at hZL
    have hZn : Z.length = (lateL (lessT t n)).length := by rw [← hZ, List.length_map]
    rw [← htw] at hTw
    have htn : (T.map (dnT n)).length = (turnsG (lessT t n) (keptS (lessT t n))).length := by rw [← htw]
    rw [hZn, htn]
    refine zz ?_
    refine Wo_callr rfl rfl rfl rfl rfl Bod.h rfl rfl (sameTurns_sv (hT2.ext hEg) (hTw.ext hEg) (by show _ < _; omega)) ?_
    rintro _ _ ⟨q1, rfl, hq1, rfl⟩
    rw [hq1.2 rfl]
    refine zz ?_
    refine Wo_callr rfl rfl rfl rfl rfl Bod.h rfl rfl (sameLate_sv (hL2.ext hEg) hZL (by show _ < _; omega) hk3) ?_
    rintro _ _ ⟨q2, rfl, hq2, rfl⟩
    rw [hq2.2 rfl]
    refine zz ?_
    refine Wo_callV rfl rfl rfl rfl rfl Bod.h rfl rfl (awake_sv _) ?_
    refine zz ?_
    exact Wc_ret (Lv_ret rfl ⟨rfl, hE07.trans hEg⟩)
  have hj' : j < (lateL t).length := by omega
  obtain ⟨hjN, hLj⟩ := lateL_at hj'
  obtain ⟨_, _, _, hrl', _⟩ := late_by hV (List.getElem_mem hjN)
  obtain ⟨hbs1, hbs2⟩ := late_small hV (List.getElem_mem hjN)
  obtain ⟨r, hre⟩ : ∃ r, r = (lateN t)[j] := ⟨_, rfl⟩
  rw [← hre] at hLj hrl' hbs1 hbs2
  have hreel : (lateL t)[j].reel = (r : Int) := by rw [hLj]; rfl
  obtain ⟨bl', ol', oal', ab, cb, el, hcr, hcb, hB⟩ := hL.by' hj'
  cases el
  rw [hreel] at hcr
  have hby : (lateL t)[j].by' = (latOf t r).by' := by rw [hLj]
  rw [hby] at hcb hB
  have htk : (((lateL t).take (j + 1)).filter fun x => decide (x.reel ≠ (n : Int))).map (dnL n) = (((lateL t).take j).filter fun x => decide (x.reel ≠ (n : Int))).map (dnL n) ++ (if (r : Int) ≠ (n : Int) then [dnL n (latOf t r)] else []) := by
    rw [take_succ hj', List.filter_append, List.map_append, hLj]
    congr 1
    by_cases e : (r : Int) ≠ (n : Int)
    · rw [if_pos e, List.filter_cons, if_pos (show decide ((latOf t r).reel ≠ (n : Int)) = true from decide_eq_true e)]; rfl
    · rw [if_neg e, List.filter_cons, if_neg (show ¬ decide ((latOf t r).reel ≠ (n : Int)) = true by rw [decide_eq_true_eq]; exact e)]; rfl
  generalize hBe : (latOf t r).by' = B at *
  have hEr := Ext.rsv g0
  have hcr1 := hEg.cell hcr
  have hcb1 := hEg.cell hcb
  have hcr2 := hEr.cell hcr1
  have hcb2 := hEr.cell hcb1
  refine zz ?_
  refine Wc_draw hmix [0, 0, 3, 7, 15, 0, 0, 96, 224, 480, 0, 2016, 4095, 0, 16383] [0, 1, 2, 3, 4, 5, 6, 7, 8, 9, 10, 13] (some 11) [([12], (some 14)), ([], none)] (by kernel_rfl) (by kernel_rfl) ?_
  refine z_m ?_; refine z_m ?_; refine z_i ?_; refine z_f ?_; refine z_l ?_; refine z_m ?_; refine z_m ?_; refine z_i ?_; refine z_f ?_; refine z_l ?_; refine z_m ?_
  refine Wp_new (nk := .ptr) rfl rfl rfl rfl rfl (fun _ _ _ => N_alloc Zr.h) ?_
  refine Wp_eff (h1 := (rsv g0)) [5, 6, 7, 8, 9, 10] (by kernel_rfl) rfl (Stl_nil rfl) rfl rfl rfl (W1_wfK (W1_call rfl rfl rfl rfl rfl Bod.h (lessOne_sv (hB.1.ext (hEg.trans hEr)) (by omega) hbs2 (show (0 : Int) ≤ (n : Int) by omega)) (fun v4 g1 hv hw1 => ?_) (fun _ _ hR => hR.elim)))
  obtain ⟨hF4, hE1⟩ := hv
  obtain ⟨a4, rfl, _, _⟩ := hF4.is
  have hUa := Upd.mk' g1 g0.nx (.cells [i64 0, .slice none 0 0] 61 false)
  have hE' := hUa.ext (hEr.trans hE1) hwg (Nat.le_refl _)
  have hcr3 := hE1.cell hcr2
  have hcb3 := hE1.cell hcb2
  have hcr4 := hE'.cell hcr1
  have hcb4 := hE'.cell hcb1
  refine z_b ?_
  refine Wp_eff (h1 := (g1.set g0.nx (.cells [i64 0, .slice none 0 0] 61 false))) [0, 1, 2, 3, 4, 5, 6, 7, 8, 9, 10, 11, 12, 13] (by kernel_rfl) rfl (by refine Stl_new (i := 13) (nk := .ptr) rfl rfl rfl rfl rfl (fun _ _ _ => N_alloc Zr.h) rfl ?_; refine t_l 4 ?_; refine t_f 3 ?_; refine t_i 2 ?_; refine t_m 1 ?_; refine t_m 0 ?_; exact Stl_nil rfl) rfl rfl rfl (W1_wfK (W1_store rfl rfl Tsz.h rfl rfl hUa.at' rfl rfl rfl (fun g2 hU2 hw2 => ?_)))
  have hE2 : Ext g0 g2 := hU2.ext hE' hwg (Nat.le_refl _)
  have hcr5 := hE2.cell hcr1
  have hcb5 := hE2.cell hcb1
  refine Wp_end (h1 := g2) (Stl_nil rfl) rfl ?_
  have hF5 := (hF4.updL hUa (Nat.lt_succ_self _)).updL hU2 (Nat.lt_succ_self _)
  have hgx := hU2.at'
  have hOa := hO.newSl hwg hEg.2.1 hE2 (hF5.base (h0 := g0) (Nat.le_succ _))
  have hOb := hO.newCe hwg hEg.2.1 hE2 hgx (Nat.le_refl _)
  have hOc := hOa.both hOb fun c hc he => by
    have hc : blkOf (Value.slice a4 (lessL n B).length (lessL n B).length) = some c := hc
    have he : c = g0.nx := he
    rcases hF5 with ⟨e, _⟩ | ⟨b', sp, op, e, _, _, h4, _⟩
    · rw [e] at hc; cases hc
    · rw [e] at hc
      have hc : some b' = some c := hc
      have h5 : g0.nx + 1 ≤ b' := h4
      cases hc; omega
  have hE9g := hEg.trans hE2
  generalize g0.nx = bx at *
  clear hOa hOb hF5 hF4 hU2 hUa hE' hE1 hEr hcr2 hcb2 hcr3 hcb3 hcr4 hcb4 hcr1 hcb1 hw1 hwg hE2 hall hO hEg hB hcb
  refine zz ?_
  by_cases c3 : (n : Int) < (r : Int)
  · refine Wo_do rfl rfl rfl rfl (A_tt c3 (A_gtr rfl rfl)) ?_
    refine zz ?_
    refine Wo_storeO hw9 hE9g rfl Tsz.h rfl rfl hOc.up2 rfl rfl rfl fun g3 hV3 hOd hE3 => ?_
    have hcr6 := hE3.cell hcr
    have hgy : g3.get bx = _ := hOd.p1
    refine zz ?_
    refine Wo_do rfl rfl rfl rfl (A_ix Und.h Tsz.h rfl rfl) ?_
    refine zz ?_
    refine Wo_do rfl rfl rfl rfl (A_tt (show ¬ ((r : Int) = (n : Int)) by omega) (A_neq rfl rfl)) ?_
    refine zz ?_
    refine Wo_bs rfl rfl Und.h Tsz.h Zr.h rfl rfl rfl rfl rfl fun g4 hX4 hV4 hg4 hx4 => ?_
    refine zz ?_
    refine Wo_appendO (by' := 32) (sz := 2) (k := 1) (n := Z.length) (l := [i64 ((r : Nat) - 1), .slice a4 (lessL n B).length (lessL n B).length]) hw9 (hE3.trans hX4) rfl rfl rfl rfl rfl Und.h inferInstance rfl rfl (hOd.ext hX4).up3 ((FreshSl.lit (h0 := h9) (n := 1) (sz := 2) hg4 rfl hE3.2.1).src (dd := .slice 61) Und.h (by intro k; simp)) rfl rfl (by omega) (by omega) fun v5 g5 hV5 hO5 hE5 => ?_
    refine zz ?_
    have hO6 := (((hO5.sub (.cons_cons _ (.cons _ (List.Sublist.refl _)))).perm ((List.Perm.swap _ _ _).trans (.cons _ (List.Perm.swap _ _ _)))).merge (z := lvI h9 (Z ++ [(dnL n (latOf t r), .slice a4 (lessL n B).length (lessL n B).length)])) (fun hx hy p hp => by
      rcases List.mem_append.1 hp with g | g
      · exact hy p g
      · rw [List.mem_singleton.1 g]
        show FreshSl h9 g5 _ 3 1 ((lessL n (latOf t r).by').map i64) (lessL n (latOf t r).by').length
        rw [hBe]
        exact hx) (fun c hc => by
      obtain ⟨p, hp, hb⟩ := hc
      rcases List.mem_append.1 hp with g | g
      · exact .inr ⟨p, g, hb⟩
      · rw [List.mem_singleton.1 g] at hb; exact .inl hb))
    have hO7 : Own h9 g5 [slI h9 v5 61 2 (Z.flatMap latRow ++ [i64 ((r : Nat) - 1), .slice a4 (lessL n B).length (lessL n B).length]) (Z.length + 1), lvI h9 (Z ++ [(dnL n (latOf t r), .slice a4 (lessL n B).length (lessL n B).length)])] := hO6.up2
    refine ⟨j + 1, (by show (lateL t).length - (j + 1) < (lateL t).length - j; omega), rfl, hj', hE5, v5, Z ++ [(dnL n (latOf t r), .slice a4 (lessL n B).length (lessL n B).length)], ?_, ?_, rfl, rfl, rfl, rfl, rfl, rfl, rfl, trivial⟩
    · rw [htk, if_pos (show (r : Int) ≠ (n : Int) by omega), List.map_append, hZ]; rfl
    · rw [List.flatMap_append, List.length_append]
      have e : [(dnL n (latOf t r), Value.slice a4 (lessL n B).length (lessL n B).length)].flatMap latRow = [i64 ((r : Nat) - 1), .slice a4 (lessL n B).length (lessL n B).length] := by
        have hq : (latOf t r).reel = (r : Int) := rfl
        simp [latRow, dnL, hq, c3]
      rw [e]
      exact hO7
  refine Wo_do rfl rfl rfl rfl (A_ff c3 (A_gtr rfl rfl)) ?_
  refine zz ?_
  refine Wo_do rfl rfl rfl rfl (A_ix Und.h Tsz.h rfl rfl) ?_
  refine zz ?_
  by_cases c4 : (r : Int) = (n : Int)
  · refine Wo_do rfl rfl rfl rfl (A_ff (fun x => x c4) (A_neq rfl rfl)) ?_
    refine zz ?_
    refine ⟨j + 1, (by show (lateL t).length - (j + 1) < (lateL t).length - j; omega), rfl, hj', hE9g, v, Z, ?_, hOc.tail.tail, rfl, rfl, rfl, rfl, rfl, rfl, rfl, trivial⟩
    rw [htk, if_neg (fun x => x c4), List.append_nil, hZ]
  refine Wo_do rfl rfl rfl rfl (A_tt c4 (A_neq rfl rfl)) ?_
  refine zz ?_
  refine Wo_bs rfl rfl Und.h Tsz.h Zr.h rfl rfl rfl rfl rfl fun g4 hX4 hV4 hg4 hx4 => ?_
  refine zz ?_
  refine Wo_appendO (by' := 32) (sz := 2) (k := 1) (n := Z.length) (l := [i64 ((r : Nat)), .slice a4 (lessL n B).length (lessL n B).length]) hw9 (hE9g.trans hX4) rfl rfl rfl rfl rfl Und.h inferInstance rfl rfl (hOc.ext hX4).up3 ((FreshSl.lit (h0 := h9) (n := 1) (sz := 2) hg4 rfl hE9g.2.1).src (dd := .slice 61) Und.h (by intro k; simp)) rfl rfl (by omega) (by omega) fun v5 g5 hV5 hO5 hE5 => ?_
  refine zz ?_
  have hO6 := (((hO5.sub (.cons_cons _ (.cons_cons _ (.cons _ (List.Sublist.refl _))))).perm ((List.Perm.swap _ _ _).trans (.cons _ (List.Perm.swap _ _ _)))).merge (z := lvI h9 (Z ++ [(dnL n (latOf t r), .slice a4 (lessL n B).length (lessL n B).length)])) (fun hx hy p hp => by
    rcases List.mem_append.1 hp with g | g
    · exact hy p g
    · rw [List.mem_singleton.1 g]
      show FreshSl h9 g5 _ 3 1 ((lessL n (latOf t r).by').map i64) (lessL n (latOf t r).by').length
      rw [hBe]
      exact hx) (fun c hc => by
    obtain ⟨p, hp, hb⟩ := hc
    rcases List.mem_append.1 hp with g | g
    · exact .inr ⟨p, g, hb⟩
    · rw [List.mem_singleton.1 g] at hb; exact .inl hb))
  have hO7 : Own h9 g5 [slI h9 v5 61 2 (Z.flatMap latRow ++ [i64 ((r : Nat)), .slice a4 (lessL n B).length (lessL n B).length]) (Z.length + 1), lvI h9 (Z ++ [(dnL n (latOf t r), .slice a4 (lessL n B).length (lessL n B).length)])] := hO6.up2
  refine ⟨j + 1, (by show (lateL t).length - (j + 1) < (lateL t).length - j; omega), rfl, hj', hE5, v5, Z ++ [(dnL n (latOf t r), .slice a4 (lessL n B).length (lessL n B).length)], ?_, ?_, rfl, rfl, rfl, rfl, rfl, rfl, rfl, trivial⟩
  · rw [htk, if_pos (show (r : Int) ≠ (n : Int) by omega), List.map_append, hZ]; rfl
  · rw [List.flatMap_append, List.length_append]
    have e : [(dnL n (latOf t r), Value.slice a4 (lessL n B).length (lessL n B).length)].flatMap latRow = [i64 ((r : Nat)), .slice a4 (lessL n B).length (lessL n B).length] := by
      have hq : (latOf t r).reel = (r : Int) := rfl
      simp [latRow, dnL, hq, c3]
    rw [e]
    exact hO7
end Go.Dw
/- Z6: reading how much more: bytes, the struct More. -/
namespace Go.Dw
open Go Go.Dx Go.Proofs
set_option maxRecDepth 100000
section
variable {P : Program} {H : Type} {enc : TypeId × Value → H} {W : World} {cs : List Value} {t : TypeId}
theorem rd_u8 (ht : P.underlying t = some (.int .u8)) (h : Rd enc P W t cs) : ∃ n, cs = [u8 n] ∧ 0 ≤ n ∧ n ≤ 255 := by
  obtain ⟨m, x, hx⟩ := h
  obtain ⟨n, h1, _, h3⟩ := DataW.trod_int ht hx
  refine ⟨n, h1, ?_⟩
  simp [Lit.wf] at h3
  have h4 : IntKind.u8.min = 0 := by decide
  have h5 : IntKind.u8.max = 255 := by decide
  omega
end
section
variable {H : Type} {enc : TypeId × Value → H} {W : World} {cs : List Value}
end
end Go.Dw
/- Z9: reading a workshop with what its slice of reels is. -/
namespace Go.Dw
open Go Go.Dx Go.Proofs
set_option maxRecDepth 100000
section
variable {H : Type} {enc : TypeId × Value → H} {W : World} {cs : List Value}
theorem rd_nilC {P : Program} {t e : TypeId} (ht : P.underlying t = some (.slice e)) (h : Rd enc P W t cs) : ∃ v a len cap, cs = [v] ∧ nz v = .slice a len cap ∧ (a = none → cap = 0) := by
  obtain ⟨m, x, hx⟩ := h
  rcases DataW.trod_slice ht hx with ⟨h1, _⟩ | ⟨a, len, cap, elems, rest, n, _, h1, _, _, hlc, hcm, hel, he, hr, _⟩
  · exact ⟨_, none, 0, 0, h1, rfl, fun _ => rfl⟩
  · by_cases hne : len = 0 ∧ cap = 0
    · obtain ⟨rfl, rfl⟩ := hne
      exact ⟨_, some ⟨0, 0, some 0⟩, 0, 0, h1, rfl, fun e => nomatch e⟩
    · refine ⟨_, some a, len, cap, h1, ?_, fun e => nomatch e⟩
      unfold nz
      split
      · rename_i hq; simp only [Value.slice.injEq] at hq; exact absurd ⟨hq.2.1, hq.2.2⟩ hne
      · rfl
theorem rd_taskP (h : Rd enc Tryz.prog W 25 cs) : ∃ t : Task, cs.all (okv W.heap.size) = true ∧ TaskP (ro W) (cs.map nz) t ∧ t.Fit := by
  obtain ⟨t, hok, hT, hF⟩ := rd_task h
  refine ⟨t, hok, ?_, hF⟩
  obtain ⟨c3, c9, c22, c23, c25, c31, c63, c72⟩ := cells_ty
  obtain ⟨h1, h2⟩ := rd_struct Tryz.underlying25 h
  rw [c25] at h1
  obtain ⟨x0, x1, x2, x3, rfl⟩ : ∃ x0 x1 x2 x3, cs = [x0, x1, x2, x3] := by
    match cs, h1 with
    | [x0, x1, x2, x3], _ => exact ⟨x0, x1, x2, x3, rfl⟩
  have f3 : Rd enc Tryz.prog W 23 (([x0, x1, x2, x3].drop 3).take (Tryz.prog.cellsOf 23)) := h2 3 _ rfl
  rw [c23] at f3
  obtain ⟨am, cm, ar, cr, e, hM, hR⟩ := hT
  have e3 : nz x3 = .slice ar t.reels.length cr := by
    simp only [List.map_cons, List.map_nil, List.cons.injEq, and_true] at e
    exact e.2.2.2
  obtain ⟨v1, a1, n1, k1, g1, g2, g3⟩ := rd_sliceC Tryz.underlying23 f3
  obtain ⟨v2, a2, n2, k2, q1, q2, q3⟩ := rd_slice0 Tryz.underlying23 (by omega) f3
  obtain ⟨v3, a3, n3, k3, r1, _, r3, _, r5⟩ := rd_slice Tryz.underlying23 (by omega) f3
  simp at g1 q1 r1
  subst g1; subst q1; subst r1
  rw [e3] at g2 q2 r3
  simp only [Value.slice.injEq] at g2 q2 r3
  obtain ⟨rfl, rfl, rfl⟩ := g2
  obtain ⟨rfl, rfl, rfl⟩ := q2
  obtain ⟨rfl, rfl, rfl⟩ := r3
  refine ⟨am, cm, ar, cr, e, hM, hR, g3, fun b o oa ha hn => ?_, fun hn => ?_, fun ha => ?_⟩
  · obtain ⟨b', o', e', _⟩ := r5 0 (List.length_pos_iff.2 hn)
    rw [ha] at e'
    cases e'; rfl
  · rcases q3 (by rw [hn]; rfl) with g | ⟨b, o, g⟩ | ⟨b, o, c, t', fz, g, hb, hc⟩
    · exact .inl g
    · exact .inr (.inl ⟨b, o, g⟩)
    · refine .inr (.inr ⟨b, o, none, g, ?_⟩)
      have := ro_row (W := W) (o := o) (n := 0) (row := []) hb (by
        unfold cut
        have : Nat.ble (Nat.add o 0) c.toList.length = true := Nat.ble_eq_true_of_le (by show o + 0 ≤ c.toList.length; rw [Array.length_toList]; omega)
        rw [this]; simp) rfl
      simpa using this
  · obtain ⟨v4, a4, n4, k4, s1, s2, s3⟩ := rd_nilC Tryz.underlying23 f3
    simp at s1
    subst s1
    rw [e3] at s2
    simp only [Value.slice.injEq] at s2
    obtain ⟨rfl, rfl, rfl⟩ := s2
    exact s3 ha
end
end Go.Dw
