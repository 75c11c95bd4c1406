/- Z2: rows of cells as the source of an append; parts of rows; rows of the function's own. -/
import Derived.Test.YtcjmpdpgfmjcgaaGreatDoorHG17
import Derived.Test.YtcjmpdpgfmjcgaaGreatDoorHG22
import Derived.Test.YtcjmpdpgfmjcgaaGreatDoorHG21
import Derived.Test.YtcjmpdpgfmjcgaaGreatDoorHG16
namespace Go.Dw
open Go Go.Dx Go.Proofs
variable {P : Program}
def RawAt (k : Nat) (h : Heap) (a : Option Addr) (rs : List (List Value)) : Prop := RowsAt k (fun _ row x => row = x) h a rs
theorem RawAt.at {k : Nat} {h : Heap} {a : Option Addr} {rs : List (List Value)} (hl : RawAt k h a rs) {i : Nat} (hi : i < rs.length) : ∃ b o oa, a = some ⟨b, o, oa⟩ /\ rowAt h b (o + i * k) k = some rs[i] := by
  obtain ⟨b, o, oa, e, row, h1, rfl⟩ := hl i hi
  exact ⟨b, o, oa, e, h1⟩
theorem RawAt.ext {k : Nat} {h h' : Heap} {a : Option Addr} {rs : List (List Value)} (hl : RawAt k h a rs) (he : Ext h h') : RawAt k h' a rs := RowsAt.ext (R := fun _ row x => row = x) (fun x _ => x) hl he
theorem list_ofV {α : Type} {Q : Nat -> α -> Prop} {n : Nat} (h : ∀ i, i < n -> ∃ x, Q i x) : ∃ l : List α, l.length = n /\ ∀ i (hi : i < l.length), Q i l[i] := by
  induction n with
  | zero => exact ⟨[], rfl, fun i hi => by simp at hi⟩
  | succ n ih =>
    obtain ⟨l, h1, h2⟩ := ih fun i hi => h i (by omega)
    obtain ⟨x, hx⟩ := h n (by omega)
    refine ⟨l ++ [x], by simp [h1], fun i hi => ?_⟩
    rcases Nat.lt_or_ge i l.length with g | g
    · rw [List.getElem_append_left g]; exact h2 i g
    · have : i = n := by simp at hi; omega
      subst this
      rw [List.getElem_append_right g]
      simpa [h1] using hx
theorem cut_len {vs l : List Value} {o n : Nat} (h : cut vs o n = some l) : l.length = n := by
  obtain ⟨h1, h2⟩ := cut_eq h
  rw [h2, List.length_take, List.length_drop]; omega
theorem rowAt_len {h : Heap} {b o n : Nat} {l : List Value} (hr : rowAt h b o n = some l) : l.length = n := by
  unfold rowAt at hr
  split at hr
  · exact cut_len hr
  · rename_i lim ob _
    unfold rdo at hr
    split at hr
    · split at hr
      · rename_i l' hc
        have hl := cut_len hc
        cases hb : l'.all (okv lim)
        · rw [hb] at hr; cases hr
        · rw [hb] at hr; cases hr
          rw [List.length_map]; exact hl
      · cases hr
    · cases hr
  · cases hr
theorem RawAt.len {k : Nat} {h : Heap} {a : Option Addr} {rs : List (List Value)} (hl : RawAt k h a rs) : ∀ r ∈ rs, r.length = k := fun r hr => by
  obtain ⟨i, hi, rfl⟩ := List.getElem_of_mem hr
  obtain ⟨b, o, oa, e, h1⟩ := hl.at hi
  exact rowAt_len h1
theorem RowsAt.raw {α : Type} {k : Nat} {R : Heap -> List Value -> α -> Prop} {h : Heap} {a : Option Addr} {l : List α} (hl : RowsAt k R h a l) : ∃ rs, rs.length = l.length /\ RawAt k h a rs /\ ∀ i (h1 : i < rs.length) (h2 : i < l.length), R h rs[i] l[i] := by
  obtain ⟨rs, h1, h2⟩ := list_ofV (n := l.length) (Q := fun i row => ∃ (hi : i < l.length), (∃ b o oa, a = some ⟨b, o, oa⟩ /\ rowAt h b (o + i * k) k = some row) /\ R h row l[i]) fun i hi => by
    obtain ⟨b, o, oa, e, row, g1, g2⟩ := hl i hi
    exact ⟨row, hi, ⟨b, o, oa, e, g1⟩, g2⟩
  refine ⟨rs, h1, fun i hi => ?_, fun i hi hi2 => (h2 i hi).2.2⟩
  obtain ⟨_, ⟨b, o, oa, e, g⟩, _⟩ := h2 i hi
  exact ⟨b, o, oa, e, _, g, rfl⟩
theorem RawAt.rows {α : Type} {k : Nat} {R : Heap -> List Value -> α -> Prop} {h : Heap} {a : Option Addr} {rs : List (List Value)} {l : List α} (hr : RawAt k h a rs) (hl : rs.length = l.length) (hR : ∀ i (h1 : i < rs.length) (h2 : i < l.length), R h rs[i] l[i]) : RowsAt k R h a l := fun i hi => by
  obtain ⟨b, o, oa, e, h1⟩ := hr.at (i := i) (by omega)
  exact ⟨b, o, oa, e, _, h1, hR i (by omega) hi⟩
theorem RawAt.take {k : Nat} {h : Heap} {a : Option Addr} {rs : List (List Value)} (hl : RawAt k h a rs) (n : Nat) : RawAt k h a (rs.take n) := fun i hi => by
  rw [List.length_take] at hi
  obtain ⟨b, o, oa, e, h1⟩ := hl.at (i := i) (by omega)
  exact ⟨b, o, oa, e, _, h1, by rw [List.getElem_take]⟩
theorem RawAt.drop {k b o : Nat} {oa oa' : Option Nat} {h : Heap} {rs : List (List Value)} (hl : RawAt k h (some ⟨b, o, oa⟩) rs) (n : Nat) : RawAt k h (some ⟨b, o + n * k, oa'⟩) (rs.drop n) := fun i hi => by
  rw [List.length_drop] at hi
  obtain ⟨b', o', oa2, e, h1⟩ := hl.at (i := n + i) (by omega)
  cases e
  refine ⟨b, o + n * k, oa', rfl, _, ?_, by rw [List.getElem_drop]⟩
  rw [show o + n * k + i * k = o + (n + i) * k by rw [Nat.add_mul]; omega]
  exact h1
abbrev catR (rs : List (List Value)) : List Value := rs.flatMap id
theorem catR_len {k : Nat} : ∀ {rs : List (List Value)}, (∀ r ∈ rs, r.length = k) -> (catR rs).length = rs.length * k
  | [], _ => by simp
  | r :: rs, h => by
    have ih := catR_len (rs := rs) fun x hx => h x (List.mem_cons_of_mem _ hx)
    have h1 := h r List.mem_cons_self
    unfold catR at ih ⊢
    rw [List.flatMap_cons, List.length_append, ih, List.length_cons, Nat.add_mul, Nat.one_mul]
    show r.length + _ = _
    omega
theorem RawAt.row {k b o : Nat} {oa : Option Nat} {h : Heap} {rs : List (List Value)} (hl : RawAt k h (some ⟨b, o, oa⟩) rs) (hk : 0 < k) (h0 : 0 < rs.length) : rowAt h b o (rs.length * k) = some (catR rs) := by
  have hn := hl.len
  have hc := catR_len hn
  rw [<- hc]
  refine row_of_cells (by rw [hc]; exact Nat.mul_pos h0 hk) fun q hq => ?_
  rw [hc] at hq
  have h1 : q / k < rs.length := (Nat.div_lt_iff_lt_mul hk).2 hq
  have h2 : q % k < k := Nat.mod_lt _ hk
  have h3 : q = q / k * k + q % k := by rw [Nat.mul_comm]; exact (Nat.div_add_mod q k).symm
  obtain ⟨b', o', oa', e, hr⟩ := hl.at h1
  cases e
  have h4 : (rs[q / k])[q % k]? = (catR rs)[q]? := by
    obtain ⟨_, h6⟩ := cut_eq (cut_flat (f := id) (k := k) h1 hn)
    have h6 : rs[q / k] = ((catR rs).drop (q / k * k)).take k := h6
    rw [h6, List.getElem?_take, if_pos h2, List.getElem?_drop, <- h3]
  have h5 : (catR rs)[q]? = some (catR rs)[q] := List.getElem?_eq_getElem _
  have := cell_of_row (k := q % k) hr (by rw [nth_eq, h4, h5])
  rw [show o + q / k * k + q % k = o + q by omega] at this
  exact this
def SrcZ (h : Heap) (a : Option Addr) : Prop := a = none \/ (∃ b o, a = some ⟨b, o, some 0⟩) \/ ∃ b o oa, a = some ⟨b, o, oa⟩ /\ rowAt h b o 0 = some []
theorem SrcZ.ext {h h' : Heap} {a : Option Addr} (hz : SrcZ h a) (he : Ext h h') : SrcZ h' a := hz.imp id fun hx => hx.imp id fun ⟨b, o, oa, h1, h2⟩ => ⟨b, o, oa, h1, he.row h2⟩
theorem RawAt.src {k : Nat} {h : Heap} {a : Option Addr} {rs : List (List Value)} {cap : Nat} {el tX : TypeId} {dd : TypeDesc} (hl : RawAt k h a rs) (hk : 0 < k) (hz : rs = [] -> SrcZ h a) (hX : P.underlying tX = some dd) (hni : ∀ k, dd ≠ .int k) : asrc P el k tX (.slice a rs.length cap) h = some (rs.length, catR rs) := by
  cases rs with
  | nil =>
    rcases hz rfl with rfl | ⟨b, o, rfl⟩ | ⟨b, o, oa, rfl, h2⟩
    · unfold asrc
      rw [hX]
      cases dd <;> first | rfl | exact absurd rfl (hni _)
    · unfold asrc
      rw [hX]
      cases dd <;> first | rfl | exact absurd rfl (hni _)
    · exact asrc_row hX hni (by rw [List.length_nil, Nat.zero_mul]; exact h2)
  | cons r rs =>
    obtain ⟨b, o, oa, rfl, _⟩ := hl.at (i := 0) (by simp)
    exact asrc_row hX hni (hl.row hk (by simp))
theorem raw_of {h0 h : Heap} {v : Value} {el : TypeId} {k : Nat} {rs : List (List Value)} (hF : FreshSl h0 h v el k (catR rs) rs.length) (hn : ∀ r ∈ rs, r.length = k) : ∃ a, v = .slice a rs.length rs.length /\ RawAt k h a rs /\ (rs = [] -> SrcZ h a) := by
  rcases hF with ⟨rfl, _, e⟩ | ⟨b, sp, op, rfl, hg, _⟩
  · exact ⟨none, by rw [e], fun i hi => by omega, fun _ => .inl rfl⟩
  · refine ⟨_, rfl, fun i hi => ⟨b, 0, sp, rfl, _, rowAt_cells hg (by rw [Nat.zero_add]; exact cut_flat hi hn), rfl⟩, fun e => ?_⟩
    subst e
    exact .inr (.inr ⟨b, 0, sp, rfl, rowAt_cells hg rfl⟩)
theorem catR_append (a b : List (List Value)) : catR (a ++ b) = catR a ++ catR b := List.flatMap_append
structure ReelsP (h : Heap) (ar : Option Addr) (l : List Reel) (cr : Nat) : Prop where
  le : l.length <= cr
  plain : ∀ b o oa, ar = some ⟨b, o, oa⟩ -> l ≠ [] -> oa = none
  z : l = [] -> SrcZ h ar
  nil : ar = none -> cr = 0
theorem ReelsP.ext {h h' : Heap} {ar : Option Addr} {l : List Reel} {cr : Nat} (a : ReelsP h ar l cr) (he : Ext h h') : ReelsP h' ar l cr := ⟨a.le, a.plain, fun e => (a.z e).ext he, a.nil⟩
def TaskP (h : Heap) (tc : List Value) (t : Task) : Prop := ∃ am cm ar cr, tc = [i64 t.first, i64 t.days, .slice am t.machines.length cm, .slice ar t.reels.length cr] /\ RowsAt 2 MachAt h am t.machines /\ RowsAt 5 ReelAt h ar t.reels /\ ReelsP h ar t.reels cr
theorem TaskP.at {h : Heap} {tc : List Value} {t : Task} (a : TaskP h tc t) : TaskAt h tc t := by
  obtain ⟨am, cm, ar, cr, e, h1, h2, _⟩ := a
  exact ⟨am, cm, ar, cr, e, h1, h2⟩
theorem TaskP.ext {h h' : Heap} {tc : List Value} {t : Task} (a : TaskP h tc t) (he : Ext h h') : TaskP h' tc t := by
  obtain ⟨am, cm, ar, cr, e, h1, h2, h3⟩ := a
  exact ⟨am, cm, ar, cr, e, RowsAt.ext (R := MachAt) (fun x y => MachAt.ext x y) h1 he, RowsAt.ext (R := ReelAt) (fun x y => ReelAt.ext x y) h2 he, h3.ext he⟩
theorem task_raw {t : Task} {h0 h : Heap} {am : Option Addr} {cm : Nat} {v : Value} {rs : List (List Value)} {l : List Reel} (hM : RowsAt 2 MachAt h am t.machines) (hF : FreshSl h0 h v 63 5 (catR rs) rs.length) (hn : ∀ r ∈ rs, r.length = 5) (hl : rs.length = l.length) (hR : ∀ i (h1 : i < rs.length) (h2 : i < l.length), ReelAt h rs[i] l[i]) :
    TaskAt h [i64 t.first, i64 t.days, .slice am t.machines.length cm, v] ⟨t.first, t.days, t.machines, l⟩ := by
  obtain ⟨a, rfl, hr, _⟩ := raw_of hF hn
  refine ⟨am, cm, a, rs.length, ?_, hM, hr.rows hl hR⟩
  show _ = [_, _, _, Value.slice a l.length rs.length]
  rw [hl]
theorem reel_one {h : Heap} {row : List Value} {x : Reel} (a : ReelAt h row x) : allOne row = true := by
  obtain ⟨_, _, rfl, _⟩ := a; rfl
theorem allOne_cat : ∀ {rs : List (List Value)}, (∀ r ∈ rs, allOne r = true) -> allOne (catR rs) = true
  | [], _ => rfl
  | r :: rs, h => by
    have ih := allOne_cat fun x hx => h x (List.mem_cons_of_mem _ hx)
    have h1 := h r List.mem_cons_self
    unfold allOne catR at *
    rw [List.flatMap_cons, List.all_append, ih]
    show (r.all _ && true) = true
    rw [h1]; rfl
theorem reels_raw {h : Heap} {ar : Option Addr} {l : List Reel} (hR : RowsAt 5 ReelAt h ar l) : ∃ rs, rs.length = l.length /\ RawAt 5 h ar rs /\ (∀ i (h1 : i < rs.length) (h2 : i < l.length), ReelAt h rs[i] l[i]) /\ ∀ r ∈ rs, allOne r = true := by
  obtain ⟨rs, h1, h2, h3⟩ := hR.raw
  refine ⟨rs, h1, h2, h3, fun r hr => ?_⟩
  obtain ⟨i, hi, rfl⟩ := List.getElem_of_mem hr
  exact reel_one (h3 i hi (by omega))
section
variable {m : Mem} {h : Heap} {d : Option Tmp} {ty : TypeId} {pos : String} {af : Array Edge} {gu : Option (Nat × Bool)}
end
end Go.Dw
/- Z7: contracts: Room, and the reference's; RescueRooms. -/
namespace Go.Dw
open Go Go.Dx Go.Proofs Go.Mt
set_option maxRecDepth 100000
open Classical in
noncomputable def roomS (t : Task) (x : Reel) : Bool × Int :=
  if errS t ≠ 0 then (false, errS t) else if errS (plus t x) ≠ 0 then (false, errS (plus t x)) else (decide (fitN (plus t x) ((goT t).1 ++ [t.reels.length])), 0)
theorem errS_25 {t : Task} {x : Reel} (h : errS t = 0) (hl : t.reels.length = 24) : errS (plus t x) = 3 := by
  have hE := errS_iff.1 h
  have h1 := hE.first
  have h2 := hE.days
  have h3 := hE.last
  have h4 := hE.ms
  unfold errS checkS
  rw [if_neg (by show ¬ ((t.first < 0 \/ 80000 < t.first) \/ (t.days < 1 \/ 60 < t.days) \/ 80000 < t.first + t.days - 1); omega), if_pos (.inr (by show 24 < (t.reels ++ [x]).length; rw [List.length_append]; simp; omega))]
theorem plus_Fit {t : Task} {x : Reel} (hf : t.Fit) (hx : x.Fit) (hl : t.reels.length < 1000000) : (plus t x).Fit :=
  ⟨hf.first, hf.days, hf.ms, (by show (t.reels ++ [x]).length < _; rw [List.length_append]; simp; omega), hf.msF, fun r hr => by
    rcases List.mem_append.1 (show r ∈ t.reels ++ [x] from hr) with g | g
    · exact hf.rsF r g
    · rw [List.mem_singleton.1 g]; exact hx⟩
open Classical in
theorem room_fit {t : Task} {x : Reel} {b : Bool} {l : List Nat} (hl : ∀ r, r ∈ l ↔ r ∈ (goT t).1 ++ [t.reels.length]) (hb : b = true ↔ Fit (adjB (plus t x) fun _ => false) l) : b = decide (fitN (plus t x) ((goT t).1 ++ [t.reels.length])) := by
  have h1 : Fit (adjB (plus t x) fun _ => false) l ↔ fitN (plus t x) ((goT t).1 ++ [t.reels.length]) := Fit.congr (fun _ _ _ => Iff.rfl) hl
  rw [h1] at hb
  by_cases c : fitN (plus t x) ((goT t).1 ++ [t.reels.length])
  · rw [hb.2 c, decide_eq_true c]
  · rw [decide_eq_false c]
    cases b
    · rfl
    · exact absurd (hb.1 rfl) c
theorem kept_plus (t : Task) : (keptI t ++ [(t.reels.length : Int)]).Nodup /\ ∀ y ∈ keptI t ++ [(t.reels.length : Int)], 0 <= y /\ y < ((t.reels.length + 1 : Nat) : Int) := by
  refine ⟨List.nodup_append.2 ⟨keptI_nodup t, (by simp), fun a ha b hb e => ?_⟩, fun y hy => ?_⟩
  · have := keptI_in ha
    rw [List.mem_singleton.1 hb] at e; omega
  · rcases List.mem_append.1 hy with g | g
    · have := keptI_in g; omega
    · rw [List.mem_singleton.1 g]; omega
theorem kept_nats (t : Task) (r : Nat) : r ∈ natsL (keptI t ++ [(t.reels.length : Int)]) ↔ r ∈ (goT t).1 ++ [t.reels.length] := by
  unfold natsL
  rw [List.map_append, List.mem_append, List.mem_append]
  have := mem_keptS (t := t) (r := r)
  unfold keptS natsL at this
  rw [this]
  simp
theorem cloneR_sv {ar : Option Addr} {cr : Nat} {rs : List (List Value)} {h : Heap} (hr : RawAt 5 h ar rs) (hz : rs = [] -> SrcZ h ar) (hn : ar = none -> cr = 0) (hl : rs.length <= 1000) (hone : ∀ r ∈ rs, allOne r = true) :
    Sv Tryz.prog 78 [.slice ar rs.length cr] h (RetP fun v' h' => FreshSl h h' v' 63 5 (catR rs) rs.length /\ Ext h h') := by
  refine Sv_wf fun hw => ?_
  refine Sv_enter Tryz.func78 rfl (by rw [Tryz.ntmps78]; rfl) ?_; show Wc Tryz.prog ⟨78, 8, none⟩ _ _ _ _ _
  repeat (first | (show Wc _ _ _ _ _ _ _; first | refine Wc_seq ?_ | refine Wc_region ?_ | refine Wc_condT rfl ?_ | refine Wc_condF rfl ?_ | refine Wc_block ?_ | refine Wc_skip ?_ | refine Wc_exit ?_ | refine Wc_label ?_) | (show Wo _ _ _ [] _ _ _ _; refine Wo_nil ?_) | (show Wo _ _ _ (_ :: _) _ _ _ _; first | (show Wo _ _ _ (⟨_, _, _, _, _, some _⟩ :: _) _ _ _ _; refine Wo_off rfl rfl rfl ?_) | (show Wo _ _ _ (⟨_, _, _, _, _, some _⟩ :: _) _ _ _ _; refine Wo_off0 rfl rfl ?_) | (show Wo _ _ _ (⟨_, .move _, _, _, _, _⟩ :: _) _ _ _ _; refine Wo_do rfl rfl rfl rfl (A_move rfl) ?_) | (show Wo _ _ _ (⟨_, .assign _, _, _, _, _⟩ :: _) _ _ _ _; refine Wo_do rfl rfl rfl rfl (A_assign rfl) ?_) | (show Wo _ _ _ (⟨_, .pick _ _ _, _, _, _, _⟩ :: _) _ _ _ _; refine Wo_do rfl rfl rfl rfl (A_pickT rfl rfl) ?_) | (show Wo _ _ _ (⟨_, .pick _ _ _, _, _, _, _⟩ :: _) _ _ _ _; refine Wo_do rfl rfl rfl rfl (A_pickF rfl rfl) ?_) | (show Wo _ _ _ (⟨_, .unOp .not _ _, _, _, _, _⟩ :: _) _ _ _ _; refine Wo_do rfl rfl rfl rfl (A_not rfl) ?_) | (show Wo _ _ _ (⟨_, .makeFunc _ _ _, _, _, _, _⟩ :: _) _ _ _ _; refine Wo_do rfl rfl rfl rfl (A_mkF rfl rfl) ?_) | (show Wo _ _ _ (⟨_, .extract _ _, _, _, _, _⟩ :: _) _ _ _ _; refine Wo_do rfl rfl rfl rfl (A_extract rfl rfl) ?_) | (show Wo _ _ _ (⟨_, .fieldAddr _ _ _, _, _, _, _⟩ :: _) _ _ _ _; refine Wo_do rfl rfl rfl rfl (A_fieldAddr Fof.h rfl) ?_) | (show Wo _ _ _ (⟨_, .load _ _, _, _, _, _⟩ :: _) _ _ _ _; refine Wo_do rfl rfl rfl rfl (A_ld OneC.h rfl) ?_) | (show Wo _ _ _ (⟨_, .load _ _, _, _, _, _⟩ :: _) _ _ _ _; refine Wo_do rfl rfl rfl rfl (A_ldr RowC.h rfl) ?_) | (show Wo _ _ _ (⟨_, .call ⟨.builtin .len, _, _⟩, _, _, _, _⟩ :: _) _ _ _ _; refine Wo_do rfl rfl rfl rfl (A_lenS rfl rfl rfl Und.h rfl) ?_) | (show Wo _ _ _ (⟨_, .call ⟨.builtin .len, _, _⟩, _, _, _, _⟩ :: _) _ _ _ _; refine Wo_do rfl rfl rfl rfl (A_lenStr rfl rfl rfl Und.h rfl) ?_) | (show Wo _ _ _ (⟨_, .binOp .add _ _ _ _, _, _, _, _⟩ :: _) _ _ _ _; refine Wo_do rfl rfl rfl rfl (A_ad rfl rfl) ?_) | (show Wo _ _ _ (⟨_, .binOp .sub _ _ _ _, _, _, _, _⟩ :: _) _ _ _ _; refine Wo_do rfl rfl rfl rfl (A_sb rfl rfl) ?_)))
  cases ar with
  | none =>
    have e : rs = [] := by
      cases rs with
      | nil => rfl
      | cons r rs => obtain ⟨_, _, _, e, _⟩ := hr.at (i := 0) (by simp); cases e
    subst e
    rw [hn rfl]
    refine Wo_do rfl rfl rfl rfl (A_eqNilN Und.h rfl rfl) ?_
    repeat (first | (show Wc _ _ _ _ _ _ _; first | refine Wc_seq ?_ | refine Wc_region ?_ | refine Wc_condT rfl ?_ | refine Wc_condF rfl ?_ | refine Wc_block ?_ | refine Wc_skip ?_ | refine Wc_exit ?_ | refine Wc_label ?_) | (show Wo _ _ _ [] _ _ _ _; refine Wo_nil ?_) | (show Wo _ _ _ (_ :: _) _ _ _ _; first | (show Wo _ _ _ (⟨_, _, _, _, _, some _⟩ :: _) _ _ _ _; refine Wo_off rfl rfl rfl ?_) | (show Wo _ _ _ (⟨_, _, _, _, _, some _⟩ :: _) _ _ _ _; refine Wo_off0 rfl rfl ?_) | (show Wo _ _ _ (⟨_, .move _, _, _, _, _⟩ :: _) _ _ _ _; refine Wo_do rfl rfl rfl rfl (A_move rfl) ?_) | (show Wo _ _ _ (⟨_, .assign _, _, _, _, _⟩ :: _) _ _ _ _; refine Wo_do rfl rfl rfl rfl (A_assign rfl) ?_) | (show Wo _ _ _ (⟨_, .pick _ _ _, _, _, _, _⟩ :: _) _ _ _ _; refine Wo_do rfl rfl rfl rfl (A_pickT rfl rfl) ?_) | (show Wo _ _ _ (⟨_, .pick _ _ _, _, _, _, _⟩ :: _) _ _ _ _; refine Wo_do rfl rfl rfl rfl (A_pickF rfl rfl) ?_) | (show Wo _ _ _ (⟨_, .unOp .not _ _, _, _, _, _⟩ :: _) _ _ _ _; refine Wo_do rfl rfl rfl rfl (A_not rfl) ?_) | (show Wo _ _ _ (⟨_, .makeFunc _ _ _, _, _, _, _⟩ :: _) _ _ _ _; refine Wo_do rfl rfl rfl rfl (A_mkF rfl rfl) ?_) | (show Wo _ _ _ (⟨_, .extract _ _, _, _, _, _⟩ :: _) _ _ _ _; refine Wo_do rfl rfl rfl rfl (A_extract rfl rfl) ?_) | (show Wo _ _ _ (⟨_, .fieldAddr _ _ _, _, _, _, _⟩ :: _) _ _ _ _; refine Wo_do rfl rfl rfl rfl (A_fieldAddr Fof.h rfl) ?_) | (show Wo _ _ _ (⟨_, .load _ _, _, _, _, _⟩ :: _) _ _ _ _; refine Wo_do rfl rfl rfl rfl (A_ld OneC.h rfl) ?_) | (show Wo _ _ _ (⟨_, .load _ _, _, _, _, _⟩ :: _) _ _ _ _; refine Wo_do rfl rfl rfl rfl (A_ldr RowC.h rfl) ?_) | (show Wo _ _ _ (⟨_, .call ⟨.builtin .len, _, _⟩, _, _, _, _⟩ :: _) _ _ _ _; refine Wo_do rfl rfl rfl rfl (A_lenS rfl rfl rfl Und.h rfl) ?_) | (show Wo _ _ _ (⟨_, .call ⟨.builtin .len, _, _⟩, _, _, _, _⟩ :: _) _ _ _ _; refine Wo_do rfl rfl rfl rfl (A_lenStr rfl rfl rfl Und.h rfl) ?_) | (show Wo _ _ _ (⟨_, .binOp .add _ _ _ _, _, _, _, _⟩ :: _) _ _ _ _; refine Wo_do rfl rfl rfl rfl (A_ad rfl rfl) ?_) | (show Wo _ _ _ (⟨_, .binOp .sub _ _ _ _, _, _, _, _⟩ :: _) _ _ _ _; refine Wo_do rfl rfl rfl rfl (A_sb rfl rfl) ?_)))
    exact Wc_ret (Lv_ret rfl ⟨FreshSl.nil _ _ _ _, Ext.refl _⟩)
  | some a =>
    refine Wo_do rfl rfl rfl rfl (A_eqNilS Und.h rfl rfl) ?_
    repeat (first | (show Wc _ _ _ _ _ _ _; first | refine Wc_seq ?_ | refine Wc_region ?_ | refine Wc_condT rfl ?_ | refine Wc_condF rfl ?_ | refine Wc_block ?_ | refine Wc_skip ?_ | refine Wc_exit ?_ | refine Wc_label ?_) | (show Wo _ _ _ [] _ _ _ _; refine Wo_nil ?_) | (show Wo _ _ _ (_ :: _) _ _ _ _; first | (show Wo _ _ _ (⟨_, _, _, _, _, some _⟩ :: _) _ _ _ _; refine Wo_off rfl rfl rfl ?_) | (show Wo _ _ _ (⟨_, _, _, _, _, some _⟩ :: _) _ _ _ _; refine Wo_off0 rfl rfl ?_) | (show Wo _ _ _ (⟨_, .move _, _, _, _, _⟩ :: _) _ _ _ _; refine Wo_do rfl rfl rfl rfl (A_move rfl) ?_) | (show Wo _ _ _ (⟨_, .assign _, _, _, _, _⟩ :: _) _ _ _ _; refine Wo_do rfl rfl rfl rfl (A_assign rfl) ?_) | (show Wo _ _ _ (⟨_, .pick _ _ _, _, _, _, _⟩ :: _) _ _ _ _; refine Wo_do rfl rfl rfl rfl (A_pickT rfl rfl) ?_) | (show Wo _ _ _ (⟨_, .pick _ _ _, _, _, _, _⟩ :: _) _ _ _ _; refine Wo_do rfl rfl rfl rfl (A_pickF rfl rfl) ?_) | (show Wo _ _ _ (⟨_, .unOp .not _ _, _, _, _, _⟩ :: _) _ _ _ _; refine Wo_do rfl rfl rfl rfl (A_not rfl) ?_) | (show Wo _ _ _ (⟨_, .makeFunc _ _ _, _, _, _, _⟩ :: _) _ _ _ _; refine Wo_do rfl rfl rfl rfl (A_mkF rfl rfl) ?_) | (show Wo _ _ _ (⟨_, .extract _ _, _, _, _, _⟩ :: _) _ _ _ _; refine Wo_do rfl rfl rfl rfl (A_extract rfl rfl) ?_) | (show Wo _ _ _ (⟨_, .fieldAddr _ _ _, _, _, _, _⟩ :: _) _ _ _ _; refine Wo_do rfl rfl rfl rfl (A_fieldAddr Fof.h rfl) ?_) | (show Wo _ _ _ (⟨_, .load _ _, _, _, _, _⟩ :: _) _ _ _ _; refine Wo_do rfl rfl rfl rfl (A_ld OneC.h rfl) ?_) | (show Wo _ _ _ (⟨_, .load _ _, _, _, _, _⟩ :: _) _ _ _ _; refine Wo_do rfl rfl rfl rfl (A_ldr RowC.h rfl) ?_) | (show Wo _ _ _ (⟨_, .call ⟨.builtin .len, _, _⟩, _, _, _, _⟩ :: _) _ _ _ _; refine Wo_do rfl rfl rfl rfl (A_lenS rfl rfl rfl Und.h rfl) ?_) | (show Wo _ _ _ (⟨_, .call ⟨.builtin .len, _, _⟩, _, _, _, _⟩ :: _) _ _ _ _; refine Wo_do rfl rfl rfl rfl (A_lenStr rfl rfl rfl Und.h rfl) ?_) | (show Wo _ _ _ (⟨_, .binOp .add _ _ _ _, _, _, _, _⟩ :: _) _ _ _ _; refine Wo_do rfl rfl rfl rfl (A_ad rfl rfl) ?_) | (show Wo _ _ _ (⟨_, .binOp .sub _ _ _ _, _, _, _, _⟩ :: _) _ _ _ _; refine Wo_do rfl rfl rfl rfl (A_sb rfl rfl) ?_)))
    refine Wo_bs rfl rfl Und.h Tsz.h Zr.h rfl rfl rfl rfl rfl fun h1 hE1 hW1 hg1 hx1 => ?_
    repeat (first | (show Wc _ _ _ _ _ _ _; first | refine Wc_seq ?_ | refine Wc_region ?_ | refine Wc_condT rfl ?_ | refine Wc_condF rfl ?_ | refine Wc_block ?_ | refine Wc_skip ?_ | refine Wc_exit ?_ | refine Wc_label ?_) | (show Wo _ _ _ [] _ _ _ _; refine Wo_nil ?_) | (show Wo _ _ _ (_ :: _) _ _ _ _; first | (show Wo _ _ _ (⟨_, _, _, _, _, some _⟩ :: _) _ _ _ _; refine Wo_off rfl rfl rfl ?_) | (show Wo _ _ _ (⟨_, _, _, _, _, some _⟩ :: _) _ _ _ _; refine Wo_off0 rfl rfl ?_) | (show Wo _ _ _ (⟨_, .move _, _, _, _, _⟩ :: _) _ _ _ _; refine Wo_do rfl rfl rfl rfl (A_move rfl) ?_) | (show Wo _ _ _ (⟨_, .assign _, _, _, _, _⟩ :: _) _ _ _ _; refine Wo_do rfl rfl rfl rfl (A_assign rfl) ?_) | (show Wo _ _ _ (⟨_, .pick _ _ _, _, _, _, _⟩ :: _) _ _ _ _; refine Wo_do rfl rfl rfl rfl (A_pickT rfl rfl) ?_) | (show Wo _ _ _ (⟨_, .pick _ _ _, _, _, _, _⟩ :: _) _ _ _ _; refine Wo_do rfl rfl rfl rfl (A_pickF rfl rfl) ?_) | (show Wo _ _ _ (⟨_, .unOp .not _ _, _, _, _, _⟩ :: _) _ _ _ _; refine Wo_do rfl rfl rfl rfl (A_not rfl) ?_) | (show Wo _ _ _ (⟨_, .makeFunc _ _ _, _, _, _, _⟩ :: _) _ _ _ _; refine Wo_do rfl rfl rfl rfl (A_mkF rfl rfl) ?_) | (show Wo _ _ _ (⟨_, .extract _ _, _, _, _, _⟩ :: _) _ _ _ _; refine Wo_do rfl rfl rfl rfl (A_extract rfl rfl) ?_) | (show Wo _ _ _ (⟨_, .fieldAddr _ _ _, _, _, _, _⟩ :: _) _ _ _ _; refine Wo_do rfl rfl rfl rfl (A_fieldAddr Fof.h rfl) ?_) | (show Wo _ _ _ (⟨_, .load _ _, _, _, _, _⟩ :: _) _ _ _ _; refine Wo_do rfl rfl rfl rfl (A_ld OneC.h rfl) ?_) | (show Wo _ _ _ (⟨_, .load _ _, _, _, _, _⟩ :: _) _ _ _ _; refine Wo_do rfl rfl rfl rfl (A_ldr RowC.h rfl) ?_) | (show Wo _ _ _ (⟨_, .call ⟨.builtin .len, _, _⟩, _, _, _, _⟩ :: _) _ _ _ _; refine Wo_do rfl rfl rfl rfl (A_lenS rfl rfl rfl Und.h rfl) ?_) | (show Wo _ _ _ (⟨_, .call ⟨.builtin .len, _, _⟩, _, _, _, _⟩ :: _) _ _ _ _; refine Wo_do rfl rfl rfl rfl (A_lenStr rfl rfl rfl Und.h rfl) ?_) | (show Wo _ _ _ (⟨_, .binOp .add _ _ _ _, _, _, _, _⟩ :: _) _ _ _ _; refine Wo_do rfl rfl rfl rfl (A_ad rfl rfl) ?_) | (show Wo _ _ _ (⟨_, .binOp .sub _ _ _ _, _, _, _, _⟩ :: _) _ _ _ _; refine Wo_do rfl rfl rfl rfl (A_sb rfl rfl) ?_)))
    refine Wo_appendF (by' := 64) (sz := 5) (k := rs.length) (n := 0) (l := catR rs) hw hE1 rfl rfl rfl rfl rfl Und.h inferInstance rfl rfl (FreshSl.lit (n := 0) (sz := 5) (cs := []) hg1 rfl (Nat.le_refl _)) ((hr.ext hE1).src (dd := .slice 63) (by decide) (fun e => (hz e).ext hE1) Und.h (by intro k; simp)) (catR_len hr.len) (allOne_cat hone) (by omega) (by omega) fun v2 h2 hF2 hE2 hK2 hx2 hv2 => ?_
    repeat (first | (show Wc _ _ _ _ _ _ _; first | refine Wc_seq ?_ | refine Wc_region ?_ | refine Wc_condT rfl ?_ | refine Wc_condF rfl ?_ | refine Wc_block ?_ | refine Wc_skip ?_ | refine Wc_exit ?_ | refine Wc_label ?_) | (show Wo _ _ _ [] _ _ _ _; refine Wo_nil ?_) | (show Wo _ _ _ (_ :: _) _ _ _ _; first | (show Wo _ _ _ (⟨_, _, _, _, _, some _⟩ :: _) _ _ _ _; refine Wo_off rfl rfl rfl ?_) | (show Wo _ _ _ (⟨_, _, _, _, _, some _⟩ :: _) _ _ _ _; refine Wo_off0 rfl rfl ?_) | (show Wo _ _ _ (⟨_, .move _, _, _, _, _⟩ :: _) _ _ _ _; refine Wo_do rfl rfl rfl rfl (A_move rfl) ?_) | (show Wo _ _ _ (⟨_, .assign _, _, _, _, _⟩ :: _) _ _ _ _; refine Wo_do rfl rfl rfl rfl (A_assign rfl) ?_) | (show Wo _ _ _ (⟨_, .pick _ _ _, _, _, _, _⟩ :: _) _ _ _ _; refine Wo_do rfl rfl rfl rfl (A_pickT rfl rfl) ?_) | (show Wo _ _ _ (⟨_, .pick _ _ _, _, _, _, _⟩ :: _) _ _ _ _; refine Wo_do rfl rfl rfl rfl (A_pickF rfl rfl) ?_) | (show Wo _ _ _ (⟨_, .unOp .not _ _, _, _, _, _⟩ :: _) _ _ _ _; refine Wo_do rfl rfl rfl rfl (A_not rfl) ?_) | (show Wo _ _ _ (⟨_, .makeFunc _ _ _, _, _, _, _⟩ :: _) _ _ _ _; refine Wo_do rfl rfl rfl rfl (A_mkF rfl rfl) ?_) | (show Wo _ _ _ (⟨_, .extract _ _, _, _, _, _⟩ :: _) _ _ _ _; refine Wo_do rfl rfl rfl rfl (A_extract rfl rfl) ?_) | (show Wo _ _ _ (⟨_, .fieldAddr _ _ _, _, _, _, _⟩ :: _) _ _ _ _; refine Wo_do rfl rfl rfl rfl (A_fieldAddr Fof.h rfl) ?_) | (show Wo _ _ _ (⟨_, .load _ _, _, _, _, _⟩ :: _) _ _ _ _; refine Wo_do rfl rfl rfl rfl (A_ld OneC.h rfl) ?_) | (show Wo _ _ _ (⟨_, .load _ _, _, _, _, _⟩ :: _) _ _ _ _; refine Wo_do rfl rfl rfl rfl (A_ldr RowC.h rfl) ?_) | (show Wo _ _ _ (⟨_, .call ⟨.builtin .len, _, _⟩, _, _, _, _⟩ :: _) _ _ _ _; refine Wo_do rfl rfl rfl rfl (A_lenS rfl rfl rfl Und.h rfl) ?_) | (show Wo _ _ _ (⟨_, .call ⟨.builtin .len, _, _⟩, _, _, _, _⟩ :: _) _ _ _ _; refine Wo_do rfl rfl rfl rfl (A_lenStr rfl rfl rfl Und.h rfl) ?_) | (show Wo _ _ _ (⟨_, .binOp .add _ _ _ _, _, _, _, _⟩ :: _) _ _ _ _; refine Wo_do rfl rfl rfl rfl (A_ad rfl rfl) ?_) | (show Wo _ _ _ (⟨_, .binOp .sub _ _ _ _, _, _, _, _⟩ :: _) _ _ _ _; refine Wo_do rfl rfl rfl rfl (A_sb rfl rfl) ?_)))
    refine Wc_ret (Lv_ret rfl ⟨?_, hE2⟩)
    rw [List.nil_append, Nat.zero_add] at hF2
    exact hF2
theorem FreshSl.updN {h0 h h' : Heap} {v : Value} {el : TypeId} {sz n b : Nat} {cs : List Value} {o : AO} (ho : FreshSl h0 h v el sz cs n) (hU : Upd h b o h') (hb : blkOf v ≠ some b) : FreshSl h0 h' v el sz cs n := by
  rcases ho with g | ⟨b', sp, op, e1, e2, e3, e4, e5⟩
  · exact .inl g
  · subst e1
    exact .inr ⟨b', sp, op, rfl, hU.get (fun e => hb (by rw [e]; rfl)) e2, e3, e4, e5⟩
theorem rows_plus {h : Heap} {rs : List (List Value)} {row : List Value} {l : List Reel} {x : Reel} (hl : rs.length = l.length) (hR : ∀ i (h1 : i < rs.length) (h2 : i < l.length), ReelAt h rs[i] l[i]) (hx : ReelAt h row x) : ∀ i (h1 : i < (rs ++ [row]).length) (h2 : i < (l ++ [x]).length), ReelAt h (rs ++ [row])[i] (l ++ [x])[i] := fun i h1 h2 => by
  rw [List.length_append] at h1
  simp only [List.length_singleton] at h1
  by_cases e : i < rs.length
  · rw [List.getElem_append_left e, List.getElem_append_left (by omega)]; exact hR i e (by omega)
  · rw [List.getElem_append_right (by omega), List.getElem_append_right (by omega)]
    simp only [List.getElem_singleton]; exact hx
set_option maxHeartbeats 8000000 in
theorem refRoom_sv {tc xc : List Value} {t : Task} {x : Reel} {h : Heap} (ht : TaskP h tc t) (hf : t.Fit) (hx : ReelAt h xc x) (hxf : x.Fit) :
    Sv Tryz.prog 38 [.agg ⟨tc⟩, .agg ⟨xc⟩] h (RetP fun v h' => v = .tuple ⟨[.bool (roomS t x).1, i64 (roomS t x).2]⟩ /\ Ext h h') := by
  have ht0 := ht.at
  obtain ⟨am, cm, ar, cr, rfl, hM, hR, hP⟩ := ht
  obtain ⟨rs, hrl, hraw, hrr, hr1⟩ := reels_raw hR
  have hx0 := hx
  obtain ⟨ax, cx, rfl, hxI⟩ := hx
  refine Sv_wf fun hw => ?_
  refine Sv_enter Tryz.func38 rfl (by rw [Tryz.ntmps38]; rfl) ?_; show Wc Tryz.prog ⟨38, 45, none⟩ _ _ _ _ _
  repeat (first | (show Wc _ _ _ _ _ _ _; first | refine Wc_seq ?_ | refine Wc_region ?_ | refine Wc_condT rfl ?_ | refine Wc_condF rfl ?_ | refine Wc_block ?_ | refine Wc_skip ?_ | refine Wc_exit ?_ | refine Wc_label ?_) | (show Wo _ _ _ [] _ _ _ _; refine Wo_nil ?_) | (show Wo _ _ _ (_ :: _) _ _ _ _; first | (show Wo _ _ _ (⟨_, _, _, _, _, some _⟩ :: _) _ _ _ _; refine Wo_off rfl rfl rfl ?_) | (show Wo _ _ _ (⟨_, _, _, _, _, some _⟩ :: _) _ _ _ _; refine Wo_off0 rfl rfl ?_) | (show Wo _ _ _ (⟨_, .move _, _, _, _, _⟩ :: _) _ _ _ _; refine Wo_do rfl rfl rfl rfl (A_move rfl) ?_) | (show Wo _ _ _ (⟨_, .assign _, _, _, _, _⟩ :: _) _ _ _ _; refine Wo_do rfl rfl rfl rfl (A_assign rfl) ?_) | (show Wo _ _ _ (⟨_, .pick _ _ _, _, _, _, _⟩ :: _) _ _ _ _; refine Wo_do rfl rfl rfl rfl (A_pickT rfl rfl) ?_) | (show Wo _ _ _ (⟨_, .pick _ _ _, _, _, _, _⟩ :: _) _ _ _ _; refine Wo_do rfl rfl rfl rfl (A_pickF rfl rfl) ?_) | (show Wo _ _ _ (⟨_, .unOp .not _ _, _, _, _, _⟩ :: _) _ _ _ _; refine Wo_do rfl rfl rfl rfl (A_not rfl) ?_) | (show Wo _ _ _ (⟨_, .makeFunc _ _ _, _, _, _, _⟩ :: _) _ _ _ _; refine Wo_do rfl rfl rfl rfl (A_mkF rfl rfl) ?_) | (show Wo _ _ _ (⟨_, .extract _ _, _, _, _, _⟩ :: _) _ _ _ _; refine Wo_do rfl rfl rfl rfl (A_extract rfl rfl) ?_) | (show Wo _ _ _ (⟨_, .fieldAddr _ _ _, _, _, _, _⟩ :: _) _ _ _ _; refine Wo_do rfl rfl rfl rfl (A_fieldAddr Fof.h rfl) ?_) | (show Wo _ _ _ (⟨_, .load _ _, _, _, _, _⟩ :: _) _ _ _ _; refine Wo_do rfl rfl rfl rfl (A_ld OneC.h rfl) ?_) | (show Wo _ _ _ (⟨_, .load _ _, _, _, _, _⟩ :: _) _ _ _ _; refine Wo_do rfl rfl rfl rfl (A_ldr RowC.h rfl) ?_) | (show Wo _ _ _ (⟨_, .call ⟨.builtin .len, _, _⟩, _, _, _, _⟩ :: _) _ _ _ _; refine Wo_do rfl rfl rfl rfl (A_lenS rfl rfl rfl Und.h rfl) ?_) | (show Wo _ _ _ (⟨_, .call ⟨.builtin .len, _, _⟩, _, _, _, _⟩ :: _) _ _ _ _; refine Wo_do rfl rfl rfl rfl (A_lenStr rfl rfl rfl Und.h rfl) ?_) | (show Wo _ _ _ (⟨_, .binOp .add _ _ _ _, _, _, _, _⟩ :: _) _ _ _ _; refine Wo_do rfl rfl rfl rfl (A_ad rfl rfl) ?_) | (show Wo _ _ _ (⟨_, .binOp .sub _ _ _ _, _, _, _, _⟩ :: _) _ _ _ _; refine Wo_do rfl rfl rfl rfl (A_sb rfl rfl) ?_)))
  refine Wo_box rfl rfl rfl fun h1 hE1 hW1 hg1 hn1 => ?_
  refine Wo_box rfl rfl rfl fun h2 hE2 hW2 hg2 hn2 => ?_
  replace hg1 := hE2.get hg1
  replace hE1 := hE1.trans hE2
  clear hE2 hW1 hn1
  generalize h.nx = b2 at *
  generalize h1.nx = b3 at *
  clear h1
  repeat (first | (show Wc _ _ _ _ _ _ _; first | refine Wc_seq ?_ | refine Wc_region ?_ | refine Wc_condT rfl ?_ | refine Wc_condF rfl ?_ | refine Wc_block ?_ | refine Wc_skip ?_ | refine Wc_exit ?_ | refine Wc_label ?_) | (show Wo _ _ _ [] _ _ _ _; refine Wo_nil ?_) | (show Wo _ _ _ (_ :: _) _ _ _ _; first | (show Wo _ _ _ (⟨_, _, _, _, _, some _⟩ :: _) _ _ _ _; refine Wo_off rfl rfl rfl ?_) | (show Wo _ _ _ (⟨_, _, _, _, _, some _⟩ :: _) _ _ _ _; refine Wo_off0 rfl rfl ?_) | (show Wo _ _ _ (⟨_, .move _, _, _, _, _⟩ :: _) _ _ _ _; refine Wo_do rfl rfl rfl rfl (A_move rfl) ?_) | (show Wo _ _ _ (⟨_, .assign _, _, _, _, _⟩ :: _) _ _ _ _; refine Wo_do rfl rfl rfl rfl (A_assign rfl) ?_) | (show Wo _ _ _ (⟨_, .pick _ _ _, _, _, _, _⟩ :: _) _ _ _ _; refine Wo_do rfl rfl rfl rfl (A_pickT rfl rfl) ?_) | (show Wo _ _ _ (⟨_, .pick _ _ _, _, _, _, _⟩ :: _) _ _ _ _; refine Wo_do rfl rfl rfl rfl (A_pickF rfl rfl) ?_) | (show Wo _ _ _ (⟨_, .unOp .not _ _, _, _, _, _⟩ :: _) _ _ _ _; refine Wo_do rfl rfl rfl rfl (A_not rfl) ?_) | (show Wo _ _ _ (⟨_, .makeFunc _ _ _, _, _, _, _⟩ :: _) _ _ _ _; refine Wo_do rfl rfl rfl rfl (A_mkF rfl rfl) ?_) | (show Wo _ _ _ (⟨_, .extract _ _, _, _, _, _⟩ :: _) _ _ _ _; refine Wo_do rfl rfl rfl rfl (A_extract rfl rfl) ?_) | (show Wo _ _ _ (⟨_, .fieldAddr _ _ _, _, _, _, _⟩ :: _) _ _ _ _; refine Wo_do rfl rfl rfl rfl (A_fieldAddr Fof.h rfl) ?_) | (show Wo _ _ _ (⟨_, .load _ _, _, _, _, _⟩ :: _) _ _ _ _; refine Wo_do rfl rfl rfl rfl (A_ld OneC.h rfl) ?_) | (show Wo _ _ _ (⟨_, .load _ _, _, _, _, _⟩ :: _) _ _ _ _; refine Wo_do rfl rfl rfl rfl (A_ldr RowC.h rfl) ?_) | (show Wo _ _ _ (⟨_, .call ⟨.builtin .len, _, _⟩, _, _, _, _⟩ :: _) _ _ _ _; refine Wo_do rfl rfl rfl rfl (A_lenS rfl rfl rfl Und.h rfl) ?_) | (show Wo _ _ _ (⟨_, .call ⟨.builtin .len, _, _⟩, _, _, _, _⟩ :: _) _ _ _ _; refine Wo_do rfl rfl rfl rfl (A_lenStr rfl rfl rfl Und.h rfl) ?_) | (show Wo _ _ _ (⟨_, .binOp .add _ _ _ _, _, _, _, _⟩ :: _) _ _ _ _; refine Wo_do rfl rfl rfl rfl (A_ad rfl rfl) ?_) | (show Wo _ _ _ (⟨_, .binOp .sub _ _ _ _, _, _, _, _⟩ :: _) _ _ _ _; refine Wo_do rfl rfl rfl rfl (A_sb rfl rfl) ?_)))
  refine Wo_callE rfl rfl rfl rfl rfl Bod.h rfl rfl (valid_sv (ht0.ext hE1) hf) fun h3 hE3 => ?_
  replace hg1 := hE3.get hg1
  replace hg2 := hE3.get hg2
  replace hE1 := hE1.trans hE3
  clear hE3 hW2 hn2
  clear h2
  repeat (first | (show Wc _ _ _ _ _ _ _; first | refine Wc_seq ?_ | refine Wc_region ?_ | refine Wc_condT rfl ?_ | refine Wc_condF rfl ?_ | refine Wc_block ?_ | refine Wc_skip ?_ | refine Wc_exit ?_ | refine Wc_label ?_) | (show Wo _ _ _ [] _ _ _ _; refine Wo_nil ?_) | (show Wo _ _ _ (_ :: _) _ _ _ _; first | (show Wo _ _ _ (⟨_, _, _, _, _, some _⟩ :: _) _ _ _ _; refine Wo_off rfl rfl rfl ?_) | (show Wo _ _ _ (⟨_, _, _, _, _, some _⟩ :: _) _ _ _ _; refine Wo_off0 rfl rfl ?_) | (show Wo _ _ _ (⟨_, .move _, _, _, _, _⟩ :: _) _ _ _ _; refine Wo_do rfl rfl rfl rfl (A_move rfl) ?_) | (show Wo _ _ _ (⟨_, .assign _, _, _, _, _⟩ :: _) _ _ _ _; refine Wo_do rfl rfl rfl rfl (A_assign rfl) ?_) | (show Wo _ _ _ (⟨_, .pick _ _ _, _, _, _, _⟩ :: _) _ _ _ _; refine Wo_do rfl rfl rfl rfl (A_pickT rfl rfl) ?_) | (show Wo _ _ _ (⟨_, .pick _ _ _, _, _, _, _⟩ :: _) _ _ _ _; refine Wo_do rfl rfl rfl rfl (A_pickF rfl rfl) ?_) | (show Wo _ _ _ (⟨_, .unOp .not _ _, _, _, _, _⟩ :: _) _ _ _ _; refine Wo_do rfl rfl rfl rfl (A_not rfl) ?_) | (show Wo _ _ _ (⟨_, .makeFunc _ _ _, _, _, _, _⟩ :: _) _ _ _ _; refine Wo_do rfl rfl rfl rfl (A_mkF rfl rfl) ?_) | (show Wo _ _ _ (⟨_, .extract _ _, _, _, _, _⟩ :: _) _ _ _ _; refine Wo_do rfl rfl rfl rfl (A_extract rfl rfl) ?_) | (show Wo _ _ _ (⟨_, .fieldAddr _ _ _, _, _, _, _⟩ :: _) _ _ _ _; refine Wo_do rfl rfl rfl rfl (A_fieldAddr Fof.h rfl) ?_) | (show Wo _ _ _ (⟨_, .load _ _, _, _, _, _⟩ :: _) _ _ _ _; refine Wo_do rfl rfl rfl rfl (A_ld OneC.h rfl) ?_) | (show Wo _ _ _ (⟨_, .load _ _, _, _, _, _⟩ :: _) _ _ _ _; refine Wo_do rfl rfl rfl rfl (A_ldr RowC.h rfl) ?_) | (show Wo _ _ _ (⟨_, .call ⟨.builtin .len, _, _⟩, _, _, _, _⟩ :: _) _ _ _ _; refine Wo_do rfl rfl rfl rfl (A_lenS rfl rfl rfl Und.h rfl) ?_) | (show Wo _ _ _ (⟨_, .call ⟨.builtin .len, _, _⟩, _, _, _, _⟩ :: _) _ _ _ _; refine Wo_do rfl rfl rfl rfl (A_lenStr rfl rfl rfl Und.h rfl) ?_) | (show Wo _ _ _ (⟨_, .binOp .add _ _ _ _, _, _, _, _⟩ :: _) _ _ _ _; refine Wo_do rfl rfl rfl rfl (A_ad rfl rfl) ?_) | (show Wo _ _ _ (⟨_, .binOp .sub _ _ _ _, _, _, _, _⟩ :: _) _ _ _ _; refine Wo_do rfl rfl rfl rfl (A_sb rfl rfl) ?_)))
  by_cases c0 : errS t = 0
  rotate_left
  · refine Wo_do rfl rfl rfl rfl (A_tt c0 (A_neq rfl rfl)) ?_
    repeat (first | (show Wc _ _ _ _ _ _ _; first | refine Wc_seq ?_ | refine Wc_region ?_ | refine Wc_condT rfl ?_ | refine Wc_condF rfl ?_ | refine Wc_block ?_ | refine Wc_skip ?_ | refine Wc_exit ?_ | refine Wc_label ?_) | (show Wo _ _ _ [] _ _ _ _; refine Wo_nil ?_) | (show Wo _ _ _ (_ :: _) _ _ _ _; first | (show Wo _ _ _ (⟨_, _, _, _, _, some _⟩ :: _) _ _ _ _; refine Wo_off rfl rfl rfl ?_) | (show Wo _ _ _ (⟨_, _, _, _, _, some _⟩ :: _) _ _ _ _; refine Wo_off0 rfl rfl ?_) | (show Wo _ _ _ (⟨_, .move _, _, _, _, _⟩ :: _) _ _ _ _; refine Wo_do rfl rfl rfl rfl (A_move rfl) ?_) | (show Wo _ _ _ (⟨_, .assign _, _, _, _, _⟩ :: _) _ _ _ _; refine Wo_do rfl rfl rfl rfl (A_assign rfl) ?_) | (show Wo _ _ _ (⟨_, .pick _ _ _, _, _, _, _⟩ :: _) _ _ _ _; refine Wo_do rfl rfl rfl rfl (A_pickT rfl rfl) ?_) | (show Wo _ _ _ (⟨_, .pick _ _ _, _, _, _, _⟩ :: _) _ _ _ _; refine Wo_do rfl rfl rfl rfl (A_pickF rfl rfl) ?_) | (show Wo _ _ _ (⟨_, .unOp .not _ _, _, _, _, _⟩ :: _) _ _ _ _; refine Wo_do rfl rfl rfl rfl (A_not rfl) ?_) | (show Wo _ _ _ (⟨_, .makeFunc _ _ _, _, _, _, _⟩ :: _) _ _ _ _; refine Wo_do rfl rfl rfl rfl (A_mkF rfl rfl) ?_) | (show Wo _ _ _ (⟨_, .extract _ _, _, _, _, _⟩ :: _) _ _ _ _; refine Wo_do rfl rfl rfl rfl (A_extract rfl rfl) ?_) | (show Wo _ _ _ (⟨_, .fieldAddr _ _ _, _, _, _, _⟩ :: _) _ _ _ _; refine Wo_do rfl rfl rfl rfl (A_fieldAddr Fof.h rfl) ?_) | (show Wo _ _ _ (⟨_, .load _ _, _, _, _, _⟩ :: _) _ _ _ _; refine Wo_do rfl rfl rfl rfl (A_ld OneC.h rfl) ?_) | (show Wo _ _ _ (⟨_, .load _ _, _, _, _, _⟩ :: _) _ _ _ _; refine Wo_do rfl rfl rfl rfl (A_ldr RowC.h rfl) ?_) | (show Wo _ _ _ (⟨_, .call ⟨.builtin .len, _, _⟩, _, _, _, _⟩ :: _) _ _ _ _; refine Wo_do rfl rfl rfl rfl (A_lenS rfl rfl rfl Und.h rfl) ?_) | (show Wo _ _ _ (⟨_, .call ⟨.builtin .len, _, _⟩, _, _, _, _⟩ :: _) _ _ _ _; refine Wo_do rfl rfl rfl rfl (A_lenStr rfl rfl rfl Und.h rfl) ?_) | (show Wo _ _ _ (⟨_, .binOp .add _ _ _ _, _, _, _, _⟩ :: _) _ _ _ _; refine Wo_do rfl rfl rfl rfl (A_ad rfl rfl) ?_) | (show Wo _ _ _ (⟨_, .binOp .sub _ _ _ _, _, _, _, _⟩ :: _) _ _ _ _; refine Wo_do rfl rfl rfl rfl (A_sb rfl rfl) ?_)))
    have hS : roomS t x = (false, errS t) := if_pos c0
    rw [hS]
    exact Wc_ret (Lv_ret rfl ⟨rfl, hE1⟩)
  have hV := valid_of c0
  have hr24 := hV.r1
  refine Wo_do rfl rfl rfl rfl (A_ff (fun x => x c0) (A_neq rfl rfl)) ?_
  repeat (first | (show Wc _ _ _ _ _ _ _; first | refine Wc_seq ?_ | refine Wc_region ?_ | refine Wc_condT rfl ?_ | refine Wc_condF rfl ?_ | refine Wc_block ?_ | refine Wc_skip ?_ | refine Wc_exit ?_ | refine Wc_label ?_) | (show Wo _ _ _ [] _ _ _ _; refine Wo_nil ?_) | (show Wo _ _ _ (_ :: _) _ _ _ _; first | (show Wo _ _ _ (⟨_, _, _, _, _, some _⟩ :: _) _ _ _ _; refine Wo_off rfl rfl rfl ?_) | (show Wo _ _ _ (⟨_, _, _, _, _, some _⟩ :: _) _ _ _ _; refine Wo_off0 rfl rfl ?_) | (show Wo _ _ _ (⟨_, .move _, _, _, _, _⟩ :: _) _ _ _ _; refine Wo_do rfl rfl rfl rfl (A_move rfl) ?_) | (show Wo _ _ _ (⟨_, .assign _, _, _, _, _⟩ :: _) _ _ _ _; refine Wo_do rfl rfl rfl rfl (A_assign rfl) ?_) | (show Wo _ _ _ (⟨_, .pick _ _ _, _, _, _, _⟩ :: _) _ _ _ _; refine Wo_do rfl rfl rfl rfl (A_pickT rfl rfl) ?_) | (show Wo _ _ _ (⟨_, .pick _ _ _, _, _, _, _⟩ :: _) _ _ _ _; refine Wo_do rfl rfl rfl rfl (A_pickF rfl rfl) ?_) | (show Wo _ _ _ (⟨_, .unOp .not _ _, _, _, _, _⟩ :: _) _ _ _ _; refine Wo_do rfl rfl rfl rfl (A_not rfl) ?_) | (show Wo _ _ _ (⟨_, .makeFunc _ _ _, _, _, _, _⟩ :: _) _ _ _ _; refine Wo_do rfl rfl rfl rfl (A_mkF rfl rfl) ?_) | (show Wo _ _ _ (⟨_, .extract _ _, _, _, _, _⟩ :: _) _ _ _ _; refine Wo_do rfl rfl rfl rfl (A_extract rfl rfl) ?_) | (show Wo _ _ _ (⟨_, .fieldAddr _ _ _, _, _, _, _⟩ :: _) _ _ _ _; refine Wo_do rfl rfl rfl rfl (A_fieldAddr Fof.h rfl) ?_) | (show Wo _ _ _ (⟨_, .load _ _, _, _, _, _⟩ :: _) _ _ _ _; refine Wo_do rfl rfl rfl rfl (A_ld OneC.h rfl) ?_) | (show Wo _ _ _ (⟨_, .load _ _, _, _, _, _⟩ :: _) _ _ _ _; refine Wo_do rfl rfl rfl rfl (A_ldr RowC.h rfl) ?_) | (show Wo _ _ _ (⟨_, .call ⟨.builtin .len, _, _⟩, _, _, _, _⟩ :: _) _ _ _ _; refine Wo_do rfl rfl rfl rfl (A_lenS rfl rfl rfl Und.h rfl) ?_) | (show Wo _ _ _ (⟨_, .call ⟨.builtin .len, _, _⟩, _, _, _, _⟩ :: _) _ _ _ _; refine Wo_do rfl rfl rfl rfl (A_lenStr rfl rfl rfl Und.h rfl) ?_) | (show Wo _ _ _ (⟨_, .binOp .add _ _ _ _, _, _, _, _⟩ :: _) _ _ _ _; refine Wo_do rfl rfl rfl rfl (A_ad rfl rfl) ?_) | (show Wo _ _ _ (⟨_, .binOp .sub _ _ _ _, _, _, _, _⟩ :: _) _ _ _ _; refine Wo_do rfl rfl rfl rfl (A_sb rfl rfl) ?_)))
  by_cases c1 : t.reels.length = 24
  · refine Wo_do rfl rfl rfl rfl (A_tt (by omega) (A_eql rfl rfl)) ?_
    repeat (first | (show Wc _ _ _ _ _ _ _; first | refine Wc_seq ?_ | refine Wc_region ?_ | refine Wc_condT rfl ?_ | refine Wc_condF rfl ?_ | refine Wc_block ?_ | refine Wc_skip ?_ | refine Wc_exit ?_ | refine Wc_label ?_) | (show Wo _ _ _ [] _ _ _ _; refine Wo_nil ?_) | (show Wo _ _ _ (_ :: _) _ _ _ _; first | (show Wo _ _ _ (⟨_, _, _, _, _, some _⟩ :: _) _ _ _ _; refine Wo_off rfl rfl rfl ?_) | (show Wo _ _ _ (⟨_, _, _, _, _, some _⟩ :: _) _ _ _ _; refine Wo_off0 rfl rfl ?_) | (show Wo _ _ _ (⟨_, .move _, _, _, _, _⟩ :: _) _ _ _ _; refine Wo_do rfl rfl rfl rfl (A_move rfl) ?_) | (show Wo _ _ _ (⟨_, .assign _, _, _, _, _⟩ :: _) _ _ _ _; refine Wo_do rfl rfl rfl rfl (A_assign rfl) ?_) | (show Wo _ _ _ (⟨_, .pick _ _ _, _, _, _, _⟩ :: _) _ _ _ _; refine Wo_do rfl rfl rfl rfl (A_pickT rfl rfl) ?_) | (show Wo _ _ _ (⟨_, .pick _ _ _, _, _, _, _⟩ :: _) _ _ _ _; refine Wo_do rfl rfl rfl rfl (A_pickF rfl rfl) ?_) | (show Wo _ _ _ (⟨_, .unOp .not _ _, _, _, _, _⟩ :: _) _ _ _ _; refine Wo_do rfl rfl rfl rfl (A_not rfl) ?_) | (show Wo _ _ _ (⟨_, .makeFunc _ _ _, _, _, _, _⟩ :: _) _ _ _ _; refine Wo_do rfl rfl rfl rfl (A_mkF rfl rfl) ?_) | (show Wo _ _ _ (⟨_, .extract _ _, _, _, _, _⟩ :: _) _ _ _ _; refine Wo_do rfl rfl rfl rfl (A_extract rfl rfl) ?_) | (show Wo _ _ _ (⟨_, .fieldAddr _ _ _, _, _, _, _⟩ :: _) _ _ _ _; refine Wo_do rfl rfl rfl rfl (A_fieldAddr Fof.h rfl) ?_) | (show Wo _ _ _ (⟨_, .load _ _, _, _, _, _⟩ :: _) _ _ _ _; refine Wo_do rfl rfl rfl rfl (A_ld OneC.h rfl) ?_) | (show Wo _ _ _ (⟨_, .load _ _, _, _, _, _⟩ :: _) _ _ _ _; refine Wo_do rfl rfl rfl rfl (A_ldr RowC.h rfl) ?_) | (show Wo _ _ _ (⟨_, .call ⟨.builtin .len, _, _⟩, _, _, _, _⟩ :: _) _ _ _ _; refine Wo_do rfl rfl rfl rfl (A_lenS rfl rfl rfl Und.h rfl) ?_) | (show Wo _ _ _ (⟨_, .call ⟨.builtin .len, _, _⟩, _, _, _, _⟩ :: _) _ _ _ _; refine Wo_do rfl rfl rfl rfl (A_lenStr rfl rfl rfl Und.h rfl) ?_) | (show Wo _ _ _ (⟨_, .binOp .add _ _ _ _, _, _, _, _⟩ :: _) _ _ _ _; refine Wo_do rfl rfl rfl rfl (A_ad rfl rfl) ?_) | (show Wo _ _ _ (⟨_, .binOp .sub _ _ _ _, _, _, _, _⟩ :: _) _ _ _ _; refine Wo_do rfl rfl rfl rfl (A_sb rfl rfl) ?_)))
    have h3 := errS_25 (x := x) c0 c1
    have hS : roomS t x = (false, 3) := by unfold roomS; rw [if_neg (fun x => x c0), if_pos (by omega), h3]
    rw [hS]
    exact Wc_ret (Lv_ret rfl ⟨rfl, hE1⟩)
  refine Wo_do rfl rfl rfl rfl (A_ff (by omega) (A_eql rfl rfl)) ?_
  repeat (first | (show Wc _ _ _ _ _ _ _; first | refine Wc_seq ?_ | refine Wc_region ?_ | refine Wc_condT rfl ?_ | refine Wc_condF rfl ?_ | refine Wc_block ?_ | refine Wc_skip ?_ | refine Wc_exit ?_ | refine Wc_label ?_) | (show Wo _ _ _ [] _ _ _ _; refine Wo_nil ?_) | (show Wo _ _ _ (_ :: _) _ _ _ _; first | (show Wo _ _ _ (⟨_, _, _, _, _, some _⟩ :: _) _ _ _ _; refine Wo_off rfl rfl rfl ?_) | (show Wo _ _ _ (⟨_, _, _, _, _, some _⟩ :: _) _ _ _ _; refine Wo_off0 rfl rfl ?_) | (show Wo _ _ _ (⟨_, .move _, _, _, _, _⟩ :: _) _ _ _ _; refine Wo_do rfl rfl rfl rfl (A_move rfl) ?_) | (show Wo _ _ _ (⟨_, .assign _, _, _, _, _⟩ :: _) _ _ _ _; refine Wo_do rfl rfl rfl rfl (A_assign rfl) ?_) | (show Wo _ _ _ (⟨_, .pick _ _ _, _, _, _, _⟩ :: _) _ _ _ _; refine Wo_do rfl rfl rfl rfl (A_pickT rfl rfl) ?_) | (show Wo _ _ _ (⟨_, .pick _ _ _, _, _, _, _⟩ :: _) _ _ _ _; refine Wo_do rfl rfl rfl rfl (A_pickF rfl rfl) ?_) | (show Wo _ _ _ (⟨_, .unOp .not _ _, _, _, _, _⟩ :: _) _ _ _ _; refine Wo_do rfl rfl rfl rfl (A_not rfl) ?_) | (show Wo _ _ _ (⟨_, .makeFunc _ _ _, _, _, _, _⟩ :: _) _ _ _ _; refine Wo_do rfl rfl rfl rfl (A_mkF rfl rfl) ?_) | (show Wo _ _ _ (⟨_, .extract _ _, _, _, _, _⟩ :: _) _ _ _ _; refine Wo_do rfl rfl rfl rfl (A_extract rfl rfl) ?_) | (show Wo _ _ _ (⟨_, .fieldAddr _ _ _, _, _, _, _⟩ :: _) _ _ _ _; refine Wo_do rfl rfl rfl rfl (A_fieldAddr Fof.h rfl) ?_) | (show Wo _ _ _ (⟨_, .load _ _, _, _, _, _⟩ :: _) _ _ _ _; refine Wo_do rfl rfl rfl rfl (A_ld OneC.h rfl) ?_) | (show Wo _ _ _ (⟨_, .load _ _, _, _, _, _⟩ :: _) _ _ _ _; refine Wo_do rfl rfl rfl rfl (A_ldr RowC.h rfl) ?_) | (show Wo _ _ _ (⟨_, .call ⟨.builtin .len, _, _⟩, _, _, _, _⟩ :: _) _ _ _ _; refine Wo_do rfl rfl rfl rfl (A_lenS rfl rfl rfl Und.h rfl) ?_) | (show Wo _ _ _ (⟨_, .call ⟨.builtin .len, _, _⟩, _, _, _, _⟩ :: _) _ _ _ _; refine Wo_do rfl rfl rfl rfl (A_lenStr rfl rfl rfl Und.h rfl) ?_) | (show Wo _ _ _ (⟨_, .binOp .add _ _ _ _, _, _, _, _⟩ :: _) _ _ _ _; refine Wo_do rfl rfl rfl rfl (A_ad rfl rfl) ?_) | (show Wo _ _ _ (⟨_, .binOp .sub _ _ _ _, _, _, _, _⟩ :: _) _ _ _ _; refine Wo_do rfl rfl rfl rfl (A_sb rfl rfl) ?_)))
  refine Wo_wf fun hw3 => ?_
  have hg10 := hg1
  refine Wo_allocStore rfl rfl Zr.h Tsz.h rfl (fun _ => rfl) rfl rfl rfl fun h4 hE4 hW4 hg4 hn4 => ?_
  replace hg1 := hE4.get hg1
  replace hg2 := hE4.get hg2
  have hE0 := hE1
  replace hE1 := hE1.trans hE4
  have hb2 : b2 < h3.nx := hw3 _ _ hg10
  generalize hbue : h3.nx = bu at *
  have hbu4 : bu < h4.nx := hW4 _ _ hg4
  have hraw4 := hraw.ext hE1
  have hEa : Ext h4 (rsv (Heap.add h4 (.cells [] 63 false))) := (Ext.add hW4 _).trans (Ext.rsv _)
  have hg1a := hEa.get hg1
  have hg2a := hEa.get hg2
  have hg4a := hEa.get hg4
  have hz4 : rs = [] -> SrcZ (rsv (Heap.add h4 (.cells [] 63 false))) ar := fun e => ((hP.z (List.length_eq_zero_iff.1 (by rw [<- hrl, e]; rfl))).ext hE1).ext hEa
  have hsrc := (hraw4.ext hEa).src (P := Tryz.prog) (cap := cr) (el := 63) (tX := 23) (dd := .slice 63) (by decide) hz4 Und.h (by intro k; simp)
  rw [hrl] at hsrc
  repeat (first | (show Wc _ _ _ _ _ _ _; first | refine Wc_seq ?_ | refine Wc_region ?_ | refine Wc_condT rfl ?_ | refine Wc_condF rfl ?_ | refine Wc_block ?_ | refine Wc_skip ?_ | refine Wc_exit ?_ | refine Wc_label ?_) | (show Wo _ _ _ [] _ _ _ _; refine Wo_nil ?_) | (show Wo _ _ _ (_ :: _) _ _ _ _; first | (show Wo _ _ _ (⟨_, _, _, _, _, some _⟩ :: _) _ _ _ _; refine Wo_off rfl rfl rfl ?_) | (show Wo _ _ _ (⟨_, _, _, _, _, some _⟩ :: _) _ _ _ _; refine Wo_off0 rfl rfl ?_) | (show Wo _ _ _ (⟨_, .move _, _, _, _, _⟩ :: _) _ _ _ _; refine Wo_do rfl rfl rfl rfl (A_move rfl) ?_) | (show Wo _ _ _ (⟨_, .assign _, _, _, _, _⟩ :: _) _ _ _ _; refine Wo_do rfl rfl rfl rfl (A_assign rfl) ?_) | (show Wo _ _ _ (⟨_, .pick _ _ _, _, _, _, _⟩ :: _) _ _ _ _; refine Wo_do rfl rfl rfl rfl (A_pickT rfl rfl) ?_) | (show Wo _ _ _ (⟨_, .pick _ _ _, _, _, _, _⟩ :: _) _ _ _ _; refine Wo_do rfl rfl rfl rfl (A_pickF rfl rfl) ?_) | (show Wo _ _ _ (⟨_, .unOp .not _ _, _, _, _, _⟩ :: _) _ _ _ _; refine Wo_do rfl rfl rfl rfl (A_not rfl) ?_) | (show Wo _ _ _ (⟨_, .makeFunc _ _ _, _, _, _, _⟩ :: _) _ _ _ _; refine Wo_do rfl rfl rfl rfl (A_mkF rfl rfl) ?_) | (show Wo _ _ _ (⟨_, .extract _ _, _, _, _, _⟩ :: _) _ _ _ _; refine Wo_do rfl rfl rfl rfl (A_extract rfl rfl) ?_) | (show Wo _ _ _ (⟨_, .fieldAddr _ _ _, _, _, _, _⟩ :: _) _ _ _ _; refine Wo_do rfl rfl rfl rfl (A_fieldAddr Fof.h rfl) ?_) | (show Wo _ _ _ (⟨_, .load _ _, _, _, _, _⟩ :: _) _ _ _ _; refine Wo_do rfl rfl rfl rfl (A_ld OneC.h rfl) ?_) | (show Wo _ _ _ (⟨_, .load _ _, _, _, _, _⟩ :: _) _ _ _ _; refine Wo_do rfl rfl rfl rfl (A_ldr RowC.h rfl) ?_) | (show Wo _ _ _ (⟨_, .call ⟨.builtin .len, _, _⟩, _, _, _, _⟩ :: _) _ _ _ _; refine Wo_do rfl rfl rfl rfl (A_lenS rfl rfl rfl Und.h rfl) ?_) | (show Wo _ _ _ (⟨_, .call ⟨.builtin .len, _, _⟩, _, _, _, _⟩ :: _) _ _ _ _; refine Wo_do rfl rfl rfl rfl (A_lenStr rfl rfl rfl Und.h rfl) ?_) | (show Wo _ _ _ (⟨_, .binOp .add _ _ _ _, _, _, _, _⟩ :: _) _ _ _ _; refine Wo_do rfl rfl rfl rfl (A_ad rfl rfl) ?_) | (show Wo _ _ _ (⟨_, .binOp .sub _ _ _ _, _, _, _, _⟩ :: _) _ _ _ _; refine Wo_do rfl rfl rfl rfl (A_sb rfl rfl) ?_)))
  refine Wc_draw hmix [0, 0, 2, 7, 0, 16, 63, 127, 255] [0, 1, 2, 4, 5] (some 3) [([], (some 6)), ([7], (some 8)), ([], none)] (by kernel_rfl) (by kernel_rfl) ?_
  refine Wp_new (nk := .sl _ _) rfl rfl rfl rfl rfl (fun _ _ hs => N_bs hs Und.h Tsz.h Zr.h rfl rfl rfl rfl rfl) ?_
  refine Wp_pure rfl rfl rfl rfl rfl (fun _ => A_fieldAddr Fof.h rfl) ?_
  refine Wp_pure rfl rfl rfl rfl rfl (fun _ => A_ld OneC.h rfl) ?_
  refine Wp_pure rfl rfl rfl rfl rfl (fun _ => A_ldr RowC.h rfl) ?_
  refine Wp_new (nk := .sl _ _) rfl rfl rfl rfl rfl (fun _ _ hs => N_bs hs Und.h Tsz.h Zr.h rfl rfl rfl rfl rfl) ?_
  refine Wp_eff (h1 := (rsv (Heap.add h4 _))) [0, 1, 2] (by kernel_rfl) rfl (Stl_nil rfl) rfl rfl rfl (W1_wfK (W1_appendF (by' := 64) (sz := 5) (k := t.reels.length) (n := 0) (l := catR rs) rfl hW4 ((hW4.add _).rsv) hEa rfl rfl rfl rfl Und.h inferInstance rfl rfl (FreshSl.lit (n := 0) (sz := 5) (cs := []) Heap.get_add_same rfl (Nat.le_refl _)) hsrc (by rw [catR_len hraw.len, hrl]) (allOne_cat hr1) (by omega) (by omega) (fun v5 h5 hF5 hE5 hK5 hx5 hv5 hw5 => ?_)))
  rw [List.nil_append, Nat.zero_add] at hF5
  have hU5 := Upd.mk' h5 (h4.nx + 1) (.cells [str x.name, .slice ax x.machines.length cx, i64 x.ready, i64 x.due, i64 x.risk] 63 false)
  have hx5' : h4.nx + 2 <= h5.nx := hx5
  have hn5 : blkOf v5 ≠ some (h4.nx + 1) := fun e => by
    rcases hv5 with g | ⟨b, g, hb⟩
    · rw [e] at g
      have g : h4.nx + 1 = h4.nx := Option.some.inj g
      omega
    · rw [e] at g
      have g := Option.some.inj g
      have hb : h4.nx + 2 <= b := hb
      omega
  have hE5' := hU5.ext hE5 hW4 (Nat.le_succ _)
  have hw5' := hw5.upd hU5 (by omega)
  have hF5' := hF5.updN hU5 hn5
  have hg15 := hE5'.get hg1
  have hg25 := hE5'.get hg2
  have hg15o := hE5.get hg1
  have hg25o := hE5.get hg2
  refine Wp_eff (h1 := (h5.set (h4.nx + 1) (.cells [str x.name, .slice ax x.machines.length cx, i64 x.ready, i64 x.due, i64 x.risk] 63 false))) [0, 1, 2, 3, 4, 5] (by kernel_rfl) rfl (by refine Stl_new (i := 5) (nk := .sl _ _) rfl rfl rfl rfl rfl (fun _ _ hs => N_bs hs Und.h Tsz.h Zr.h rfl rfl rfl rfl rfl) rfl ?_; refine Stl_pure (i := 4) rfl rfl rfl rfl rfl (fun _ => A_ldr RowC.h rfl) rfl ?_; exact Stl_nil rfl) rfl rfl rfl (W1_wfK (W1_appendF (by' := 64) (sz := 5) (k := 1) (n := t.reels.length) (l := [str x.name, .slice ax x.machines.length cx, i64 x.ready, i64 x.due, i64 x.risk]) rfl hW4 hw5' hE5' rfl rfl rfl rfl Und.h inferInstance rfl rfl hF5' ((FreshSl.lit (h0 := h4) (n := 1) (sz := 5) hU5.at' rfl (Nat.le_succ _)).src (dd := .slice 63) Und.h (by intro k; simp)) rfl rfl (by omega) (by omega) (fun v6 h6 hF6 hE6 hK6 hx6 hv6 hw6 => ?_)))
  have hcat : catR rs ++ [str x.name, .slice ax x.machines.length cx, i64 x.ready, i64 x.due, i64 x.risk] = catR (rs ++ [[str x.name, .slice ax x.machines.length cx, i64 x.ready, i64 x.due, i64 x.risk]]) := by rw [catR_append]; simp
  have hlen1 : (rs ++ [[str x.name, Value.slice ax x.machines.length cx, i64 x.ready, i64 x.due, i64 x.risk]]).length = t.reels.length + 1 := by rw [List.length_append, hrl]; rfl
  rw [hcat, <- hlen1] at hF6
  obtain ⟨a6, rfl, _, _⟩ := hF6.is
  have hgu := hE6.get hg4
  have hg16 := hE6.get hg1
  have hg26 := hE6.get hg2
  refine Wp_pure rfl rfl rfl rfl rfl (fun _ => A_fieldAddr Fof.h rfl) ?_
  refine Wp_eff (h1 := h6) [0, 1, 2, 3, 4, 5, 6, 7] (by kernel_rfl) rfl (Stl_nil rfl) rfl rfl rfl (W1_wfK (W1_store rfl rfl Tsz.h rfl rfl hgu rfl rfl rfl (fun h7 hU7 hw7 => ?_)))
  refine Wp_end (h1 := h7) (Stl_nil rfl) rfl ?_
  have hE37 : Ext h3 h7 := hU7.ext (hE4.trans hE6) hw3 (Nat.le_of_eq hbue)
  have hF7 := (hF6.updL hU7 hbu4).base (h0 := h3) hE4.2.1
  have hE07 := hE0.trans hE37
  have hgu7 := hU7.at'
  have hg17 := hU7.get (show b2 ≠ bu from fun e => by rw [e] at hb2; omega) hg16
  have hUT : TaskAt h7 [i64 t.first, i64 t.days, .slice am t.machines.length cm, .slice a6 (rs ++ [[str x.name, Value.slice ax x.machines.length cx, i64 x.ready, i64 x.due, i64 x.risk]]).length (rs ++ [[str x.name, Value.slice ax x.machines.length cx, i64 x.ready, i64 x.due, i64 x.risk]]).length] (plus t x) :=
    task_raw (RowsAt.ext (R := MachAt) (fun x y => MachAt.ext x y) hM hE07) hF7 (fun r hr => by
      rcases List.mem_append.1 hr with g | g
      · exact hraw.len r g
      · rw [List.mem_singleton.1 g]; rfl) (by rw [hlen1, List.length_append]; rfl) fun i h1 h2 => (rows_plus hrl hrr hx0 i h1 h2).ext hE07
  have hUF := plus_Fit hf hxf (show t.reels.length < 1000000 by omega)
  rw [hlen1] at hgu7 hUT
  clear hU7 hF7 hF6 hE6 hgu hg16 hg26 hF5 hF5' hE5 hE5' hw5' hU5 hK5 hK6 hv5 hv6 hx5 hx6 hg15 hg25 hg15o hg25o hsrc hz4 hEa hg1a hg2a hg4a hg1 hg2 hw5 hw6 hraw4 hg4 hW4 hn4 hE4 hE1 hcat
  repeat (first | (show Wc _ _ _ _ _ _ _; first | refine Wc_seq ?_ | refine Wc_region ?_ | refine Wc_condT rfl ?_ | refine Wc_condF rfl ?_ | refine Wc_block ?_ | refine Wc_skip ?_ | refine Wc_exit ?_ | refine Wc_label ?_) | (show Wo _ _ _ [] _ _ _ _; refine Wo_nil ?_) | (show Wo _ _ _ (_ :: _) _ _ _ _; first | (show Wo _ _ _ (⟨_, _, _, _, _, some _⟩ :: _) _ _ _ _; refine Wo_off rfl rfl rfl ?_) | (show Wo _ _ _ (⟨_, _, _, _, _, some _⟩ :: _) _ _ _ _; refine Wo_off0 rfl rfl ?_) | (show Wo _ _ _ (⟨_, .move _, _, _, _, _⟩ :: _) _ _ _ _; refine Wo_do rfl rfl rfl rfl (A_move rfl) ?_) | (show Wo _ _ _ (⟨_, .assign _, _, _, _, _⟩ :: _) _ _ _ _; refine Wo_do rfl rfl rfl rfl (A_assign rfl) ?_) | (show Wo _ _ _ (⟨_, .pick _ _ _, _, _, _, _⟩ :: _) _ _ _ _; refine Wo_do rfl rfl rfl rfl (A_pickT rfl rfl) ?_) | (show Wo _ _ _ (⟨_, .pick _ _ _, _, _, _, _⟩ :: _) _ _ _ _; refine Wo_do rfl rfl rfl rfl (A_pickF rfl rfl) ?_) | (show Wo _ _ _ (⟨_, .unOp .not _ _, _, _, _, _⟩ :: _) _ _ _ _; refine Wo_do rfl rfl rfl rfl (A_not rfl) ?_) | (show Wo _ _ _ (⟨_, .makeFunc _ _ _, _, _, _, _⟩ :: _) _ _ _ _; refine Wo_do rfl rfl rfl rfl (A_mkF rfl rfl) ?_) | (show Wo _ _ _ (⟨_, .extract _ _, _, _, _, _⟩ :: _) _ _ _ _; refine Wo_do rfl rfl rfl rfl (A_extract rfl rfl) ?_) | (show Wo _ _ _ (⟨_, .fieldAddr _ _ _, _, _, _, _⟩ :: _) _ _ _ _; refine Wo_do rfl rfl rfl rfl (A_fieldAddr Fof.h rfl) ?_) | (show Wo _ _ _ (⟨_, .load _ _, _, _, _, _⟩ :: _) _ _ _ _; refine Wo_do rfl rfl rfl rfl (A_ld OneC.h rfl) ?_) | (show Wo _ _ _ (⟨_, .load _ _, _, _, _, _⟩ :: _) _ _ _ _; refine Wo_do rfl rfl rfl rfl (A_ldr RowC.h rfl) ?_) | (show Wo _ _ _ (⟨_, .call ⟨.builtin .len, _, _⟩, _, _, _, _⟩ :: _) _ _ _ _; refine Wo_do rfl rfl rfl rfl (A_lenS rfl rfl rfl Und.h rfl) ?_) | (show Wo _ _ _ (⟨_, .call ⟨.builtin .len, _, _⟩, _, _, _, _⟩ :: _) _ _ _ _; refine Wo_do rfl rfl rfl rfl (A_lenStr rfl rfl rfl Und.h rfl) ?_) | (show Wo _ _ _ (⟨_, .binOp .add _ _ _ _, _, _, _, _⟩ :: _) _ _ _ _; refine Wo_do rfl rfl rfl rfl (A_ad rfl rfl) ?_) | (show Wo _ _ _ (⟨_, .binOp .sub _ _ _ _, _, _, _, _⟩ :: _) _ _ _ _; refine Wo_do rfl rfl rfl rfl (A_sb rfl rfl) ?_)))
  refine Wo_callE rfl rfl rfl rfl rfl Bod.h rfl rfl (valid_sv hUT hUF) fun h8 hE8 => ?_
  replace hg17 := hE8.get hg17
  replace hgu7 := hE8.get hgu7
  replace hUT := hUT.ext hE8
  replace hE07 := hE07.trans hE8
  clear hE8
  repeat (first | (show Wc _ _ _ _ _ _ _; first | refine Wc_seq ?_ | refine Wc_region ?_ | refine Wc_condT rfl ?_ | refine Wc_condF rfl ?_ | refine Wc_block ?_ | refine Wc_skip ?_ | refine Wc_exit ?_ | refine Wc_label ?_) | (show Wo _ _ _ [] _ _ _ _; refine Wo_nil ?_) | (show Wo _ _ _ (_ :: _) _ _ _ _; first | (show Wo _ _ _ (⟨_, _, _, _, _, some _⟩ :: _) _ _ _ _; refine Wo_off rfl rfl rfl ?_) | (show Wo _ _ _ (⟨_, _, _, _, _, some _⟩ :: _) _ _ _ _; refine Wo_off0 rfl rfl ?_) | (show Wo _ _ _ (⟨_, .move _, _, _, _, _⟩ :: _) _ _ _ _; refine Wo_do rfl rfl rfl rfl (A_move rfl) ?_) | (show Wo _ _ _ (⟨_, .assign _, _, _, _, _⟩ :: _) _ _ _ _; refine Wo_do rfl rfl rfl rfl (A_assign rfl) ?_) | (show Wo _ _ _ (⟨_, .pick _ _ _, _, _, _, _⟩ :: _) _ _ _ _; refine Wo_do rfl rfl rfl rfl (A_pickT rfl rfl) ?_) | (show Wo _ _ _ (⟨_, .pick _ _ _, _, _, _, _⟩ :: _) _ _ _ _; refine Wo_do rfl rfl rfl rfl (A_pickF rfl rfl) ?_) | (show Wo _ _ _ (⟨_, .unOp .not _ _, _, _, _, _⟩ :: _) _ _ _ _; refine Wo_do rfl rfl rfl rfl (A_not rfl) ?_) | (show Wo _ _ _ (⟨_, .makeFunc _ _ _, _, _, _, _⟩ :: _) _ _ _ _; refine Wo_do rfl rfl rfl rfl (A_mkF rfl rfl) ?_) | (show Wo _ _ _ (⟨_, .extract _ _, _, _, _, _⟩ :: _) _ _ _ _; refine Wo_do rfl rfl rfl rfl (A_extract rfl rfl) ?_) | (show Wo _ _ _ (⟨_, .fieldAddr _ _ _, _, _, _, _⟩ :: _) _ _ _ _; refine Wo_do rfl rfl rfl rfl (A_fieldAddr Fof.h rfl) ?_) | (show Wo _ _ _ (⟨_, .load _ _, _, _, _, _⟩ :: _) _ _ _ _; refine Wo_do rfl rfl rfl rfl (A_ld OneC.h rfl) ?_) | (show Wo _ _ _ (⟨_, .load _ _, _, _, _, _⟩ :: _) _ _ _ _; refine Wo_do rfl rfl rfl rfl (A_ldr RowC.h rfl) ?_) | (show Wo _ _ _ (⟨_, .call ⟨.builtin .len, _, _⟩, _, _, _, _⟩ :: _) _ _ _ _; refine Wo_do rfl rfl rfl rfl (A_lenS rfl rfl rfl Und.h rfl) ?_) | (show Wo _ _ _ (⟨_, .call ⟨.builtin .len, _, _⟩, _, _, _, _⟩ :: _) _ _ _ _; refine Wo_do rfl rfl rfl rfl (A_lenStr rfl rfl rfl Und.h rfl) ?_) | (show Wo _ _ _ (⟨_, .binOp .add _ _ _ _, _, _, _, _⟩ :: _) _ _ _ _; refine Wo_do rfl rfl rfl rfl (A_ad rfl rfl) ?_) | (show Wo _ _ _ (⟨_, .binOp .sub _ _ _ _, _, _, _, _⟩ :: _) _ _ _ _; refine Wo_do rfl rfl rfl rfl (A_sb rfl rfl) ?_)))
  by_cases c2 : errS (plus t x) = 0
  rotate_left
  · refine Wo_do rfl rfl rfl rfl (A_tt c2 (A_neq rfl rfl)) ?_
    repeat (first | (show Wc _ _ _ _ _ _ _; first | refine Wc_seq ?_ | refine Wc_region ?_ | refine Wc_condT rfl ?_ | refine Wc_condF rfl ?_ | refine Wc_block ?_ | refine Wc_skip ?_ | refine Wc_exit ?_ | refine Wc_label ?_) | (show Wo _ _ _ [] _ _ _ _; refine Wo_nil ?_) | (show Wo _ _ _ (_ :: _) _ _ _ _; first | (show Wo _ _ _ (⟨_, _, _, _, _, some _⟩ :: _) _ _ _ _; refine Wo_off rfl rfl rfl ?_) | (show Wo _ _ _ (⟨_, _, _, _, _, some _⟩ :: _) _ _ _ _; refine Wo_off0 rfl rfl ?_) | (show Wo _ _ _ (⟨_, .move _, _, _, _, _⟩ :: _) _ _ _ _; refine Wo_do rfl rfl rfl rfl (A_move rfl) ?_) | (show Wo _ _ _ (⟨_, .assign _, _, _, _, _⟩ :: _) _ _ _ _; refine Wo_do rfl rfl rfl rfl (A_assign rfl) ?_) | (show Wo _ _ _ (⟨_, .pick _ _ _, _, _, _, _⟩ :: _) _ _ _ _; refine Wo_do rfl rfl rfl rfl (A_pickT rfl rfl) ?_) | (show Wo _ _ _ (⟨_, .pick _ _ _, _, _, _, _⟩ :: _) _ _ _ _; refine Wo_do rfl rfl rfl rfl (A_pickF rfl rfl) ?_) | (show Wo _ _ _ (⟨_, .unOp .not _ _, _, _, _, _⟩ :: _) _ _ _ _; refine Wo_do rfl rfl rfl rfl (A_not rfl) ?_) | (show Wo _ _ _ (⟨_, .makeFunc _ _ _, _, _, _, _⟩ :: _) _ _ _ _; refine Wo_do rfl rfl rfl rfl (A_mkF rfl rfl) ?_) | (show Wo _ _ _ (⟨_, .extract _ _, _, _, _, _⟩ :: _) _ _ _ _; refine Wo_do rfl rfl rfl rfl (A_extract rfl rfl) ?_) | (show Wo _ _ _ (⟨_, .fieldAddr _ _ _, _, _, _, _⟩ :: _) _ _ _ _; refine Wo_do rfl rfl rfl rfl (A_fieldAddr Fof.h rfl) ?_) | (show Wo _ _ _ (⟨_, .load _ _, _, _, _, _⟩ :: _) _ _ _ _; refine Wo_do rfl rfl rfl rfl (A_ld OneC.h rfl) ?_) | (show Wo _ _ _ (⟨_, .load _ _, _, _, _, _⟩ :: _) _ _ _ _; refine Wo_do rfl rfl rfl rfl (A_ldr RowC.h rfl) ?_) | (show Wo _ _ _ (⟨_, .call ⟨.builtin .len, _, _⟩, _, _, _, _⟩ :: _) _ _ _ _; refine Wo_do rfl rfl rfl rfl (A_lenS rfl rfl rfl Und.h rfl) ?_) | (show Wo _ _ _ (⟨_, .call ⟨.builtin .len, _, _⟩, _, _, _, _⟩ :: _) _ _ _ _; refine Wo_do rfl rfl rfl rfl (A_lenStr rfl rfl rfl Und.h rfl) ?_) | (show Wo _ _ _ (⟨_, .binOp .add _ _ _ _, _, _, _, _⟩ :: _) _ _ _ _; refine Wo_do rfl rfl rfl rfl (A_ad rfl rfl) ?_) | (show Wo _ _ _ (⟨_, .binOp .sub _ _ _ _, _, _, _, _⟩ :: _) _ _ _ _; refine Wo_do rfl rfl rfl rfl (A_sb rfl rfl) ?_)))
    have hS : roomS t x = (false, errS (plus t x)) := by unfold roomS; rw [if_neg (fun x => x c0), if_pos c2]
    rw [hS]
    exact Wc_ret (Lv_ret rfl ⟨rfl, hE07⟩)
  have hUV := valid_of c2
  refine Wo_do rfl rfl rfl rfl (A_ff (fun x => x c2) (A_neq rfl rfl)) ?_
  repeat (first | (show Wc _ _ _ _ _ _ _; first | refine Wc_seq ?_ | refine Wc_region ?_ | refine Wc_condT rfl ?_ | refine Wc_condF rfl ?_ | refine Wc_block ?_ | refine Wc_skip ?_ | refine Wc_exit ?_ | refine Wc_label ?_) | (show Wo _ _ _ [] _ _ _ _; refine Wo_nil ?_) | (show Wo _ _ _ (_ :: _) _ _ _ _; first | (show Wo _ _ _ (⟨_, _, _, _, _, some _⟩ :: _) _ _ _ _; refine Wo_off rfl rfl rfl ?_) | (show Wo _ _ _ (⟨_, _, _, _, _, some _⟩ :: _) _ _ _ _; refine Wo_off0 rfl rfl ?_) | (show Wo _ _ _ (⟨_, .move _, _, _, _, _⟩ :: _) _ _ _ _; refine Wo_do rfl rfl rfl rfl (A_move rfl) ?_) | (show Wo _ _ _ (⟨_, .assign _, _, _, _, _⟩ :: _) _ _ _ _; refine Wo_do rfl rfl rfl rfl (A_assign rfl) ?_) | (show Wo _ _ _ (⟨_, .pick _ _ _, _, _, _, _⟩ :: _) _ _ _ _; refine Wo_do rfl rfl rfl rfl (A_pickT rfl rfl) ?_) | (show Wo _ _ _ (⟨_, .pick _ _ _, _, _, _, _⟩ :: _) _ _ _ _; refine Wo_do rfl rfl rfl rfl (A_pickF rfl rfl) ?_) | (show Wo _ _ _ (⟨_, .unOp .not _ _, _, _, _, _⟩ :: _) _ _ _ _; refine Wo_do rfl rfl rfl rfl (A_not rfl) ?_) | (show Wo _ _ _ (⟨_, .makeFunc _ _ _, _, _, _, _⟩ :: _) _ _ _ _; refine Wo_do rfl rfl rfl rfl (A_mkF rfl rfl) ?_) | (show Wo _ _ _ (⟨_, .extract _ _, _, _, _, _⟩ :: _) _ _ _ _; refine Wo_do rfl rfl rfl rfl (A_extract rfl rfl) ?_) | (show Wo _ _ _ (⟨_, .fieldAddr _ _ _, _, _, _, _⟩ :: _) _ _ _ _; refine Wo_do rfl rfl rfl rfl (A_fieldAddr Fof.h rfl) ?_) | (show Wo _ _ _ (⟨_, .load _ _, _, _, _, _⟩ :: _) _ _ _ _; refine Wo_do rfl rfl rfl rfl (A_ld OneC.h rfl) ?_) | (show Wo _ _ _ (⟨_, .load _ _, _, _, _, _⟩ :: _) _ _ _ _; refine Wo_do rfl rfl rfl rfl (A_ldr RowC.h rfl) ?_) | (show Wo _ _ _ (⟨_, .call ⟨.builtin .len, _, _⟩, _, _, _, _⟩ :: _) _ _ _ _; refine Wo_do rfl rfl rfl rfl (A_lenS rfl rfl rfl Und.h rfl) ?_) | (show Wo _ _ _ (⟨_, .call ⟨.builtin .len, _, _⟩, _, _, _, _⟩ :: _) _ _ _ _; refine Wo_do rfl rfl rfl rfl (A_lenStr rfl rfl rfl Und.h rfl) ?_) | (show Wo _ _ _ (⟨_, .binOp .add _ _ _ _, _, _, _, _⟩ :: _) _ _ _ _; refine Wo_do rfl rfl rfl rfl (A_ad rfl rfl) ?_) | (show Wo _ _ _ (⟨_, .binOp .sub _ _ _ _, _, _, _, _⟩ :: _) _ _ _ _; refine Wo_do rfl rfl rfl rfl (A_sb rfl rfl) ?_)))
  refine Wo_callr rfl rfl rfl rfl rfl Bod.h rfl rfl (refChosen_sv (ht0.ext hE07) hf hV) ?_
  rintro _ h9 ⟨v1, al, rfl, hF1, hL, hE9⟩
  replace hg17 := hE9.get hg17
  replace hgu7 := hE9.get hgu7
  replace hUT := hUT.ext hE9
  replace hE07 := hE07.trans hE9
  obtain ⟨a1, rfl, _, hs1⟩ := hF1.srcAt
  have hkl := keptI_len t
  have hkpl : (keptI t ++ [(t.reels.length : Int)]).length = (keptI t).length + 1 := by rw [List.length_append]; rfl
  repeat (first | (show Wc _ _ _ _ _ _ _; first | refine Wc_seq ?_ | refine Wc_region ?_ | refine Wc_condT rfl ?_ | refine Wc_condF rfl ?_ | refine Wc_block ?_ | refine Wc_skip ?_ | refine Wc_exit ?_ | refine Wc_label ?_) | (show Wo _ _ _ [] _ _ _ _; refine Wo_nil ?_) | (show Wo _ _ _ (_ :: _) _ _ _ _; first | (show Wo _ _ _ (⟨_, _, _, _, _, some _⟩ :: _) _ _ _ _; refine Wo_off rfl rfl rfl ?_) | (show Wo _ _ _ (⟨_, _, _, _, _, some _⟩ :: _) _ _ _ _; refine Wo_off0 rfl rfl ?_) | (show Wo _ _ _ (⟨_, .move _, _, _, _, _⟩ :: _) _ _ _ _; refine Wo_do rfl rfl rfl rfl (A_move rfl) ?_) | (show Wo _ _ _ (⟨_, .assign _, _, _, _, _⟩ :: _) _ _ _ _; refine Wo_do rfl rfl rfl rfl (A_assign rfl) ?_) | (show Wo _ _ _ (⟨_, .pick _ _ _, _, _, _, _⟩ :: _) _ _ _ _; refine Wo_do rfl rfl rfl rfl (A_pickT rfl rfl) ?_) | (show Wo _ _ _ (⟨_, .pick _ _ _, _, _, _, _⟩ :: _) _ _ _ _; refine Wo_do rfl rfl rfl rfl (A_pickF rfl rfl) ?_) | (show Wo _ _ _ (⟨_, .unOp .not _ _, _, _, _, _⟩ :: _) _ _ _ _; refine Wo_do rfl rfl rfl rfl (A_not rfl) ?_) | (show Wo _ _ _ (⟨_, .makeFunc _ _ _, _, _, _, _⟩ :: _) _ _ _ _; refine Wo_do rfl rfl rfl rfl (A_mkF rfl rfl) ?_) | (show Wo _ _ _ (⟨_, .extract _ _, _, _, _, _⟩ :: _) _ _ _ _; refine Wo_do rfl rfl rfl rfl (A_extract rfl rfl) ?_) | (show Wo _ _ _ (⟨_, .fieldAddr _ _ _, _, _, _, _⟩ :: _) _ _ _ _; refine Wo_do rfl rfl rfl rfl (A_fieldAddr Fof.h rfl) ?_) | (show Wo _ _ _ (⟨_, .load _ _, _, _, _, _⟩ :: _) _ _ _ _; refine Wo_do rfl rfl rfl rfl (A_ld OneC.h rfl) ?_) | (show Wo _ _ _ (⟨_, .load _ _, _, _, _, _⟩ :: _) _ _ _ _; refine Wo_do rfl rfl rfl rfl (A_ldr RowC.h rfl) ?_) | (show Wo _ _ _ (⟨_, .call ⟨.builtin .len, _, _⟩, _, _, _, _⟩ :: _) _ _ _ _; refine Wo_do rfl rfl rfl rfl (A_lenS rfl rfl rfl Und.h rfl) ?_) | (show Wo _ _ _ (⟨_, .call ⟨.builtin .len, _, _⟩, _, _, _, _⟩ :: _) _ _ _ _; refine Wo_do rfl rfl rfl rfl (A_lenStr rfl rfl rfl Und.h rfl) ?_) | (show Wo _ _ _ (⟨_, .binOp .add _ _ _ _, _, _, _, _⟩ :: _) _ _ _ _; refine Wo_do rfl rfl rfl rfl (A_ad rfl rfl) ?_) | (show Wo _ _ _ (⟨_, .binOp .sub _ _ _ _, _, _, _, _⟩ :: _) _ _ _ _; refine Wo_do rfl rfl rfl rfl (A_sb rfl rfl) ?_)))
  refine Wc_draw hmix [0, 0, 0, 4, 12, 30, 63, 127, 255] [0, 1, 2, 3, 4] (some 5) [([], (some 6)), ([], (some 7)), ([], (some 8)), ([], none)] (by kernel_rfl) (by kernel_rfl) ?_
  refine Wp_pure rfl rfl rfl rfl rfl (fun _ => A_ldr RowC.h rfl) ?_
  refine Wp_pure rfl rfl rfl rfl rfl (fun _ => A_move rfl) ?_
  refine Wp_pure rfl rfl rfl rfl rfl (fun _ => A_fieldAddr Fof.h rfl) ?_
  refine Wp_pure rfl rfl rfl rfl rfl (fun _ => A_ld OneC.h rfl) ?_
  refine Wp_pure rfl rfl rfl rfl rfl (fun _ => A_lenS rfl rfl rfl Und.h rfl) ?_
  refine Wp_eff [1, 2, 3, 4] (by kernel_rfl) rfl (Stl_nil rfl) rfl (addAll_none (NoB_cons (NoB_cons (NoB_cons (NoB_cons (NoB_cons NoB_nil)))))) rfl (W1_call rfl rfl rfl rfl rfl Bod.h (refWith_sv hs1 (by omega)) (fun v10 h10 hv => ?_) (fun _ _ hR => hR.elim))
  obtain ⟨hF10, hE10⟩ := hv
  obtain ⟨a10, rfl, _, hs10⟩ := hF10.srcAt
  replace hg17 := hE10.get hg17
  replace hgu7 := hE10.get hgu7
  replace hUT := hUT.ext hE10
  replace hE07 := hE07.trans hE10
  have hfit := refFitsIn_sv (cap := (keptI t ++ [(t.reels.length : Int)]).length) hUT hUF hUV hs10.1 (kept_plus t).1 (fun y hy => by rw [plus_len]; exact (kept_plus t).2 y hy) (by omega)
  refine Wp_eff [0, 1, 2, 3, 4, 5] (by kernel_rfl) rfl (by refine Stl_pure (i := 0) rfl rfl rfl rfl rfl (fun _ => A_ldr RowC.h rfl) rfl ?_; exact Stl_nil rfl) rfl (addAll_none (NoB_filter (NoB_cons (NoB_cons (NoB_cons (NoB_cons (NoB_cons NoB_nil))))))) rfl (W1_call rfl rfl rfl rfl rfl Bod.h hfit (fun v11 h11 hv => ?_) (fun _ _ hR => hR.elim))
  obtain ⟨b11, rfl, hb11, hE11⟩ := hv
  replace hg17 := hE11.get hg17
  replace hgu7 := hE11.get hgu7
  refine Wp_eff [0, 1, 2, 3, 4, 5, 6] (by kernel_rfl) rfl (Stl_nil rfl) rfl (addAll_none (NoB_filter (NoB_filter (NoB_cons (NoB_cons (NoB_cons (NoB_cons (NoB_cons NoB_nil)))))))) rfl (W1_op rfl rfl (A_assign rfl) ?_)
  refine Wp_eff [0, 1, 2, 3, 4, 5, 6, 7] (by kernel_rfl) rfl (Stl_nil rfl) rfl (addAll_none (NoB_filter (NoB_filter (NoB_filter (NoB_cons (NoB_cons (NoB_cons (NoB_cons (NoB_cons NoB_nil))))))))) rfl (W1_op rfl rfl (A_assign rfl) ?_)
  refine Wp_end (Stl_nil rfl) (addAll_none' (NoB_filter (NoB_filter (NoB_filter (NoB_filter (NoB_cons (NoB_cons (NoB_cons (NoB_cons (NoB_cons NoB_nil)))))))))) ?_
  have hS : roomS t x = (b11, 0) := by unfold roomS; rw [if_neg (fun x => x c0), if_neg (fun x => x c2), <- room_fit (kept_nats t) hb11]
  repeat (first | (show Wc _ _ _ _ _ _ _; first | refine Wc_seq ?_ | refine Wc_region ?_ | refine Wc_condT rfl ?_ | refine Wc_condF rfl ?_ | refine Wc_block ?_ | refine Wc_skip ?_ | refine Wc_exit ?_ | refine Wc_label ?_) | (show Wo _ _ _ [] _ _ _ _; refine Wo_nil ?_) | (show Wo _ _ _ (_ :: _) _ _ _ _; first | (show Wo _ _ _ (⟨_, _, _, _, _, some _⟩ :: _) _ _ _ _; refine Wo_off rfl rfl rfl ?_) | (show Wo _ _ _ (⟨_, _, _, _, _, some _⟩ :: _) _ _ _ _; refine Wo_off0 rfl rfl ?_) | (show Wo _ _ _ (⟨_, .move _, _, _, _, _⟩ :: _) _ _ _ _; refine Wo_do rfl rfl rfl rfl (A_move rfl) ?_) | (show Wo _ _ _ (⟨_, .assign _, _, _, _, _⟩ :: _) _ _ _ _; refine Wo_do rfl rfl rfl rfl (A_assign rfl) ?_) | (show Wo _ _ _ (⟨_, .pick _ _ _, _, _, _, _⟩ :: _) _ _ _ _; refine Wo_do rfl rfl rfl rfl (A_pickT rfl rfl) ?_) | (show Wo _ _ _ (⟨_, .pick _ _ _, _, _, _, _⟩ :: _) _ _ _ _; refine Wo_do rfl rfl rfl rfl (A_pickF rfl rfl) ?_) | (show Wo _ _ _ (⟨_, .unOp .not _ _, _, _, _, _⟩ :: _) _ _ _ _; refine Wo_do rfl rfl rfl rfl (A_not rfl) ?_) | (show Wo _ _ _ (⟨_, .makeFunc _ _ _, _, _, _, _⟩ :: _) _ _ _ _; refine Wo_do rfl rfl rfl rfl (A_mkF rfl rfl) ?_) | (show Wo _ _ _ (⟨_, .extract _ _, _, _, _, _⟩ :: _) _ _ _ _; refine Wo_do rfl rfl rfl rfl (A_extract rfl rfl) ?_) | (show Wo _ _ _ (⟨_, .fieldAddr _ _ _, _, _, _, _⟩ :: _) _ _ _ _; refine Wo_do rfl rfl rfl rfl (A_fieldAddr Fof.h rfl) ?_) | (show Wo _ _ _ (⟨_, .load _ _, _, _, _, _⟩ :: _) _ _ _ _; refine Wo_do rfl rfl rfl rfl (A_ld OneC.h rfl) ?_) | (show Wo _ _ _ (⟨_, .load _ _, _, _, _, _⟩ :: _) _ _ _ _; refine Wo_do rfl rfl rfl rfl (A_ldr RowC.h rfl) ?_) | (show Wo _ _ _ (⟨_, .call ⟨.builtin .len, _, _⟩, _, _, _, _⟩ :: _) _ _ _ _; refine Wo_do rfl rfl rfl rfl (A_lenS rfl rfl rfl Und.h rfl) ?_) | (show Wo _ _ _ (⟨_, .call ⟨.builtin .len, _, _⟩, _, _, _, _⟩ :: _) _ _ _ _; refine Wo_do rfl rfl rfl rfl (A_lenStr rfl rfl rfl Und.h rfl) ?_) | (show Wo _ _ _ (⟨_, .binOp .add _ _ _ _, _, _, _, _⟩ :: _) _ _ _ _; refine Wo_do rfl rfl rfl rfl (A_ad rfl rfl) ?_) | (show Wo _ _ _ (⟨_, .binOp .sub _ _ _ _, _, _, _, _⟩ :: _) _ _ _ _; refine Wo_do rfl rfl rfl rfl (A_sb rfl rfl) ?_)))
  rw [hS]
  exact Wc_ret (Lv_ret rfl ⟨rfl, hE07.trans hE11⟩)
set_option maxHeartbeats 8000000 in
theorem rescueRoom_sv {tc xc : List Value} {t : Task} {x : Reel} {h : Heap} (ht : TaskP h tc t) (hf : t.Fit) (hx : ReelAt h xc x) (hxf : x.Fit) :
    Sv Tryz.prog 37 [.agg ⟨tc⟩, .agg ⟨xc⟩] h (RetP fun v h' => v = .tuple ⟨[.bool (roomS t x).1, i64 (roomS t x).2]⟩ /\ Ext h h') := by
  have ht0 := ht.at
  obtain ⟨am, cm, ar, cr, rfl, hM, hR, hP⟩ := ht
  obtain ⟨rs, hrl, hraw, hrr, hr1⟩ := reels_raw hR
  have hx0 := hx
  obtain ⟨ax, cx, rfl, hxI⟩ := hx
  refine Sv_wf fun hw => ?_
  refine Sv_enter Tryz.func37 rfl (by rw [Tryz.ntmps37]; rfl) ?_; show Wc Tryz.prog ⟨37, 54, none⟩ _ _ _ _ _
  repeat (first | (show Wc _ _ _ _ _ _ _; first | refine Wc_seq ?_ | refine Wc_region ?_ | refine Wc_condT rfl ?_ | refine Wc_condF rfl ?_ | refine Wc_block ?_ | refine Wc_skip ?_ | refine Wc_exit ?_ | refine Wc_label ?_) | (show Wo _ _ _ [] _ _ _ _; refine Wo_nil ?_) | (show Wo _ _ _ (_ :: _) _ _ _ _; first | (show Wo _ _ _ (⟨_, _, _, _, _, some _⟩ :: _) _ _ _ _; refine Wo_off rfl rfl rfl ?_) | (show Wo _ _ _ (⟨_, _, _, _, _, some _⟩ :: _) _ _ _ _; refine Wo_off0 rfl rfl ?_) | (show Wo _ _ _ (⟨_, .move _, _, _, _, _⟩ :: _) _ _ _ _; refine Wo_do rfl rfl rfl rfl (A_move rfl) ?_) | (show Wo _ _ _ (⟨_, .assign _, _, _, _, _⟩ :: _) _ _ _ _; refine Wo_do rfl rfl rfl rfl (A_assign rfl) ?_) | (show Wo _ _ _ (⟨_, .pick _ _ _, _, _, _, _⟩ :: _) _ _ _ _; refine Wo_do rfl rfl rfl rfl (A_pickT rfl rfl) ?_) | (show Wo _ _ _ (⟨_, .pick _ _ _, _, _, _, _⟩ :: _) _ _ _ _; refine Wo_do rfl rfl rfl rfl (A_pickF rfl rfl) ?_) | (show Wo _ _ _ (⟨_, .unOp .not _ _, _, _, _, _⟩ :: _) _ _ _ _; refine Wo_do rfl rfl rfl rfl (A_not rfl) ?_) | (show Wo _ _ _ (⟨_, .makeFunc _ _ _, _, _, _, _⟩ :: _) _ _ _ _; refine Wo_do rfl rfl rfl rfl (A_mkF rfl rfl) ?_) | (show Wo _ _ _ (⟨_, .extract _ _, _, _, _, _⟩ :: _) _ _ _ _; refine Wo_do rfl rfl rfl rfl (A_extract rfl rfl) ?_) | (show Wo _ _ _ (⟨_, .fieldAddr _ _ _, _, _, _, _⟩ :: _) _ _ _ _; refine Wo_do rfl rfl rfl rfl (A_fieldAddr Fof.h rfl) ?_) | (show Wo _ _ _ (⟨_, .load _ _, _, _, _, _⟩ :: _) _ _ _ _; refine Wo_do rfl rfl rfl rfl (A_ld OneC.h rfl) ?_) | (show Wo _ _ _ (⟨_, .load _ _, _, _, _, _⟩ :: _) _ _ _ _; refine Wo_do rfl rfl rfl rfl (A_ldr RowC.h rfl) ?_) | (show Wo _ _ _ (⟨_, .call ⟨.builtin .len, _, _⟩, _, _, _, _⟩ :: _) _ _ _ _; refine Wo_do rfl rfl rfl rfl (A_lenS rfl rfl rfl Und.h rfl) ?_) | (show Wo _ _ _ (⟨_, .call ⟨.builtin .len, _, _⟩, _, _, _, _⟩ :: _) _ _ _ _; refine Wo_do rfl rfl rfl rfl (A_lenStr rfl rfl rfl Und.h rfl) ?_) | (show Wo _ _ _ (⟨_, .binOp .add _ _ _ _, _, _, _, _⟩ :: _) _ _ _ _; refine Wo_do rfl rfl rfl rfl (A_ad rfl rfl) ?_) | (show Wo _ _ _ (⟨_, .binOp .sub _ _ _ _, _, _, _, _⟩ :: _) _ _ _ _; refine Wo_do rfl rfl rfl rfl (A_sb rfl rfl) ?_)))
  refine Wo_box rfl rfl rfl fun h1 hE1 hW1 hg1 hn1 => ?_
  refine Wo_box rfl rfl rfl fun h2 hE2 hW2 hg2 hn2 => ?_
  replace hg1 := hE2.get hg1
  replace hE1 := hE1.trans hE2
  clear hE2 hW1 hn1
  generalize h.nx = b2 at *
  generalize h1.nx = b3 at *
  clear h1
  repeat (first | (show Wc _ _ _ _ _ _ _; first | refine Wc_seq ?_ | refine Wc_region ?_ | refine Wc_condT rfl ?_ | refine Wc_condF rfl ?_ | refine Wc_block ?_ | refine Wc_skip ?_ | refine Wc_exit ?_ | refine Wc_label ?_) | (show Wo _ _ _ [] _ _ _ _; refine Wo_nil ?_) | (show Wo _ _ _ (_ :: _) _ _ _ _; first | (show Wo _ _ _ (⟨_, _, _, _, _, some _⟩ :: _) _ _ _ _; refine Wo_off rfl rfl rfl ?_) | (show Wo _ _ _ (⟨_, _, _, _, _, some _⟩ :: _) _ _ _ _; refine Wo_off0 rfl rfl ?_) | (show Wo _ _ _ (⟨_, .move _, _, _, _, _⟩ :: _) _ _ _ _; refine Wo_do rfl rfl rfl rfl (A_move rfl) ?_) | (show Wo _ _ _ (⟨_, .assign _, _, _, _, _⟩ :: _) _ _ _ _; refine Wo_do rfl rfl rfl rfl (A_assign rfl) ?_) | (show Wo _ _ _ (⟨_, .pick _ _ _, _, _, _, _⟩ :: _) _ _ _ _; refine Wo_do rfl rfl rfl rfl (A_pickT rfl rfl) ?_) | (show Wo _ _ _ (⟨_, .pick _ _ _, _, _, _, _⟩ :: _) _ _ _ _; refine Wo_do rfl rfl rfl rfl (A_pickF rfl rfl) ?_) | (show Wo _ _ _ (⟨_, .unOp .not _ _, _, _, _, _⟩ :: _) _ _ _ _; refine Wo_do rfl rfl rfl rfl (A_not rfl) ?_) | (show Wo _ _ _ (⟨_, .makeFunc _ _ _, _, _, _, _⟩ :: _) _ _ _ _; refine Wo_do rfl rfl rfl rfl (A_mkF rfl rfl) ?_) | (show Wo _ _ _ (⟨_, .extract _ _, _, _, _, _⟩ :: _) _ _ _ _; refine Wo_do rfl rfl rfl rfl (A_extract rfl rfl) ?_) | (show Wo _ _ _ (⟨_, .fieldAddr _ _ _, _, _, _, _⟩ :: _) _ _ _ _; refine Wo_do rfl rfl rfl rfl (A_fieldAddr Fof.h rfl) ?_) | (show Wo _ _ _ (⟨_, .load _ _, _, _, _, _⟩ :: _) _ _ _ _; refine Wo_do rfl rfl rfl rfl (A_ld OneC.h rfl) ?_) | (show Wo _ _ _ (⟨_, .load _ _, _, _, _, _⟩ :: _) _ _ _ _; refine Wo_do rfl rfl rfl rfl (A_ldr RowC.h rfl) ?_) | (show Wo _ _ _ (⟨_, .call ⟨.builtin .len, _, _⟩, _, _, _, _⟩ :: _) _ _ _ _; refine Wo_do rfl rfl rfl rfl (A_lenS rfl rfl rfl Und.h rfl) ?_) | (show Wo _ _ _ (⟨_, .call ⟨.builtin .len, _, _⟩, _, _, _, _⟩ :: _) _ _ _ _; refine Wo_do rfl rfl rfl rfl (A_lenStr rfl rfl rfl Und.h rfl) ?_) | (show Wo _ _ _ (⟨_, .binOp .add _ _ _ _, _, _, _, _⟩ :: _) _ _ _ _; refine Wo_do rfl rfl rfl rfl (A_ad rfl rfl) ?_) | (show Wo _ _ _ (⟨_, .binOp .sub _ _ _ _, _, _, _, _⟩ :: _) _ _ _ _; refine Wo_do rfl rfl rfl rfl (A_sb rfl rfl) ?_)))
  refine Wo_callE rfl rfl rfl rfl rfl Bod.h rfl rfl (rescueCheck_sv (ht0.ext hE1) hf) fun h3 hE3 => ?_
  unfold tup3
  replace hg1 := hE3.get hg1
  replace hg2 := hE3.get hg2
  replace hE1 := hE1.trans hE3
  clear hE3 hW2 hn2
  clear h2
  repeat (first | (show Wc _ _ _ _ _ _ _; first | refine Wc_seq ?_ | refine Wc_region ?_ | refine Wc_condT rfl ?_ | refine Wc_condF rfl ?_ | refine Wc_block ?_ | refine Wc_skip ?_ | refine Wc_exit ?_ | refine Wc_label ?_) | (show Wo _ _ _ [] _ _ _ _; refine Wo_nil ?_) | (show Wo _ _ _ (_ :: _) _ _ _ _; first | (show Wo _ _ _ (⟨_, _, _, _, _, some _⟩ :: _) _ _ _ _; refine Wo_off rfl rfl rfl ?_) | (show Wo _ _ _ (⟨_, _, _, _, _, some _⟩ :: _) _ _ _ _; refine Wo_off0 rfl rfl ?_) | (show Wo _ _ _ (⟨_, .move _, _, _, _, _⟩ :: _) _ _ _ _; refine Wo_do rfl rfl rfl rfl (A_move rfl) ?_) | (show Wo _ _ _ (⟨_, .assign _, _, _, _, _⟩ :: _) _ _ _ _; refine Wo_do rfl rfl rfl rfl (A_assign rfl) ?_) | (show Wo _ _ _ (⟨_, .pick _ _ _, _, _, _, _⟩ :: _) _ _ _ _; refine Wo_do rfl rfl rfl rfl (A_pickT rfl rfl) ?_) | (show Wo _ _ _ (⟨_, .pick _ _ _, _, _, _, _⟩ :: _) _ _ _ _; refine Wo_do rfl rfl rfl rfl (A_pickF rfl rfl) ?_) | (show Wo _ _ _ (⟨_, .unOp .not _ _, _, _, _, _⟩ :: _) _ _ _ _; refine Wo_do rfl rfl rfl rfl (A_not rfl) ?_) | (show Wo _ _ _ (⟨_, .makeFunc _ _ _, _, _, _, _⟩ :: _) _ _ _ _; refine Wo_do rfl rfl rfl rfl (A_mkF rfl rfl) ?_) | (show Wo _ _ _ (⟨_, .extract _ _, _, _, _, _⟩ :: _) _ _ _ _; refine Wo_do rfl rfl rfl rfl (A_extract rfl rfl) ?_) | (show Wo _ _ _ (⟨_, .fieldAddr _ _ _, _, _, _, _⟩ :: _) _ _ _ _; refine Wo_do rfl rfl rfl rfl (A_fieldAddr Fof.h rfl) ?_) | (show Wo _ _ _ (⟨_, .load _ _, _, _, _, _⟩ :: _) _ _ _ _; refine Wo_do rfl rfl rfl rfl (A_ld OneC.h rfl) ?_) | (show Wo _ _ _ (⟨_, .load _ _, _, _, _, _⟩ :: _) _ _ _ _; refine Wo_do rfl rfl rfl rfl (A_ldr RowC.h rfl) ?_) | (show Wo _ _ _ (⟨_, .call ⟨.builtin .len, _, _⟩, _, _, _, _⟩ :: _) _ _ _ _; refine Wo_do rfl rfl rfl rfl (A_lenS rfl rfl rfl Und.h rfl) ?_) | (show Wo _ _ _ (⟨_, .call ⟨.builtin .len, _, _⟩, _, _, _, _⟩ :: _) _ _ _ _; refine Wo_do rfl rfl rfl rfl (A_lenStr rfl rfl rfl Und.h rfl) ?_) | (show Wo _ _ _ (⟨_, .binOp .add _ _ _ _, _, _, _, _⟩ :: _) _ _ _ _; refine Wo_do rfl rfl rfl rfl (A_ad rfl rfl) ?_) | (show Wo _ _ _ (⟨_, .binOp .sub _ _ _ _, _, _, _, _⟩ :: _) _ _ _ _; refine Wo_do rfl rfl rfl rfl (A_sb rfl rfl) ?_)))
  by_cases c0 : errS t = 0
  rotate_left
  · refine Wo_do rfl rfl rfl rfl (A_tt c0 (A_neq rfl rfl)) ?_
    repeat (first | (show Wc _ _ _ _ _ _ _; first | refine Wc_seq ?_ | refine Wc_region ?_ | refine Wc_condT rfl ?_ | refine Wc_condF rfl ?_ | refine Wc_block ?_ | refine Wc_skip ?_ | refine Wc_exit ?_ | refine Wc_label ?_) | (show Wo _ _ _ [] _ _ _ _; refine Wo_nil ?_) | (show Wo _ _ _ (_ :: _) _ _ _ _; first | (show Wo _ _ _ (⟨_, _, _, _, _, some _⟩ :: _) _ _ _ _; refine Wo_off rfl rfl rfl ?_) | (show Wo _ _ _ (⟨_, _, _, _, _, some _⟩ :: _) _ _ _ _; refine Wo_off0 rfl rfl ?_) | (show Wo _ _ _ (⟨_, .move _, _, _, _, _⟩ :: _) _ _ _ _; refine Wo_do rfl rfl rfl rfl (A_move rfl) ?_) | (show Wo _ _ _ (⟨_, .assign _, _, _, _, _⟩ :: _) _ _ _ _; refine Wo_do rfl rfl rfl rfl (A_assign rfl) ?_) | (show Wo _ _ _ (⟨_, .pick _ _ _, _, _, _, _⟩ :: _) _ _ _ _; refine Wo_do rfl rfl rfl rfl (A_pickT rfl rfl) ?_) | (show Wo _ _ _ (⟨_, .pick _ _ _, _, _, _, _⟩ :: _) _ _ _ _; refine Wo_do rfl rfl rfl rfl (A_pickF rfl rfl) ?_) | (show Wo _ _ _ (⟨_, .unOp .not _ _, _, _, _, _⟩ :: _) _ _ _ _; refine Wo_do rfl rfl rfl rfl (A_not rfl) ?_) | (show Wo _ _ _ (⟨_, .makeFunc _ _ _, _, _, _, _⟩ :: _) _ _ _ _; refine Wo_do rfl rfl rfl rfl (A_mkF rfl rfl) ?_) | (show Wo _ _ _ (⟨_, .extract _ _, _, _, _, _⟩ :: _) _ _ _ _; refine Wo_do rfl rfl rfl rfl (A_extract rfl rfl) ?_) | (show Wo _ _ _ (⟨_, .fieldAddr _ _ _, _, _, _, _⟩ :: _) _ _ _ _; refine Wo_do rfl rfl rfl rfl (A_fieldAddr Fof.h rfl) ?_) | (show Wo _ _ _ (⟨_, .load _ _, _, _, _, _⟩ :: _) _ _ _ _; refine Wo_do rfl rfl rfl rfl (A_ld OneC.h rfl) ?_) | (show Wo _ _ _ (⟨_, .load _ _, _, _, _, _⟩ :: _) _ _ _ _; refine Wo_do rfl rfl rfl rfl (A_ldr RowC.h rfl) ?_) | (show Wo _ _ _ (⟨_, .call ⟨.builtin .len, _, _⟩, _, _, _, _⟩ :: _) _ _ _ _; refine Wo_do rfl rfl rfl rfl (A_lenS rfl rfl rfl Und.h rfl) ?_) | (show Wo _ _ _ (⟨_, .call ⟨.builtin .len, _, _⟩, _, _, _, _⟩ :: _) _ _ _ _; refine Wo_do rfl rfl rfl rfl (A_lenStr rfl rfl rfl Und.h rfl) ?_) | (show Wo _ _ _ (⟨_, .binOp .add _ _ _ _, _, _, _, _⟩ :: _) _ _ _ _; refine Wo_do rfl rfl rfl rfl (A_ad rfl rfl) ?_) | (show Wo _ _ _ (⟨_, .binOp .sub _ _ _ _, _, _, _, _⟩ :: _) _ _ _ _; refine Wo_do rfl rfl rfl rfl (A_sb rfl rfl) ?_)))
    have hS : roomS t x = (false, errS t) := if_pos c0
    rw [hS]
    exact Wc_ret (Lv_ret rfl ⟨rfl, hE1⟩)
  have hV := valid_of c0
  have hr24 := hV.r1
  refine Wo_do rfl rfl rfl rfl (A_ff (fun x => x c0) (A_neq rfl rfl)) ?_
  repeat (first | (show Wc _ _ _ _ _ _ _; first | refine Wc_seq ?_ | refine Wc_region ?_ | refine Wc_condT rfl ?_ | refine Wc_condF rfl ?_ | refine Wc_block ?_ | refine Wc_skip ?_ | refine Wc_exit ?_ | refine Wc_label ?_) | (show Wo _ _ _ [] _ _ _ _; refine Wo_nil ?_) | (show Wo _ _ _ (_ :: _) _ _ _ _; first | (show Wo _ _ _ (⟨_, _, _, _, _, some _⟩ :: _) _ _ _ _; refine Wo_off rfl rfl rfl ?_) | (show Wo _ _ _ (⟨_, _, _, _, _, some _⟩ :: _) _ _ _ _; refine Wo_off0 rfl rfl ?_) | (show Wo _ _ _ (⟨_, .move _, _, _, _, _⟩ :: _) _ _ _ _; refine Wo_do rfl rfl rfl rfl (A_move rfl) ?_) | (show Wo _ _ _ (⟨_, .assign _, _, _, _, _⟩ :: _) _ _ _ _; refine Wo_do rfl rfl rfl rfl (A_assign rfl) ?_) | (show Wo _ _ _ (⟨_, .pick _ _ _, _, _, _, _⟩ :: _) _ _ _ _; refine Wo_do rfl rfl rfl rfl (A_pickT rfl rfl) ?_) | (show Wo _ _ _ (⟨_, .pick _ _ _, _, _, _, _⟩ :: _) _ _ _ _; refine Wo_do rfl rfl rfl rfl (A_pickF rfl rfl) ?_) | (show Wo _ _ _ (⟨_, .unOp .not _ _, _, _, _, _⟩ :: _) _ _ _ _; refine Wo_do rfl rfl rfl rfl (A_not rfl) ?_) | (show Wo _ _ _ (⟨_, .makeFunc _ _ _, _, _, _, _⟩ :: _) _ _ _ _; refine Wo_do rfl rfl rfl rfl (A_mkF rfl rfl) ?_) | (show Wo _ _ _ (⟨_, .extract _ _, _, _, _, _⟩ :: _) _ _ _ _; refine Wo_do rfl rfl rfl rfl (A_extract rfl rfl) ?_) | (show Wo _ _ _ (⟨_, .fieldAddr _ _ _, _, _, _, _⟩ :: _) _ _ _ _; refine Wo_do rfl rfl rfl rfl (A_fieldAddr Fof.h rfl) ?_) | (show Wo _ _ _ (⟨_, .load _ _, _, _, _, _⟩ :: _) _ _ _ _; refine Wo_do rfl rfl rfl rfl (A_ld OneC.h rfl) ?_) | (show Wo _ _ _ (⟨_, .load _ _, _, _, _, _⟩ :: _) _ _ _ _; refine Wo_do rfl rfl rfl rfl (A_ldr RowC.h rfl) ?_) | (show Wo _ _ _ (⟨_, .call ⟨.builtin .len, _, _⟩, _, _, _, _⟩ :: _) _ _ _ _; refine Wo_do rfl rfl rfl rfl (A_lenS rfl rfl rfl Und.h rfl) ?_) | (show Wo _ _ _ (⟨_, .call ⟨.builtin .len, _, _⟩, _, _, _, _⟩ :: _) _ _ _ _; refine Wo_do rfl rfl rfl rfl (A_lenStr rfl rfl rfl Und.h rfl) ?_) | (show Wo _ _ _ (⟨_, .binOp .add _ _ _ _, _, _, _, _⟩ :: _) _ _ _ _; refine Wo_do rfl rfl rfl rfl (A_ad rfl rfl) ?_) | (show Wo _ _ _ (⟨_, .binOp .sub _ _ _ _, _, _, _, _⟩ :: _) _ _ _ _; refine Wo_do rfl rfl rfl rfl (A_sb rfl rfl) ?_)))
  refine Wo_wf fun hw3 => ?_
  have hg10 := hg1
  refine Wo_allocStore rfl rfl Zr.h Tsz.h rfl (fun _ => rfl) rfl rfl rfl fun h4 hE4 hW4 hg4 hn4 => ?_
  replace hg1 := hE4.get hg1
  replace hg2 := hE4.get hg2
  have hE0 := hE1
  replace hE1 := hE1.trans hE4
  have hb2 : b2 < h3.nx := hw3 _ _ hg10
  generalize hbue : h3.nx = bu at *
  have hbu4 : bu < h4.nx := hW4 _ _ hg4
  have hraw4 := hraw.ext hE1
  have hEa : Ext h4 (rsv h4) := Ext.rsv _
  have hg1a := hEa.get hg1
  have hg2a := hEa.get hg2
  have hg4a := hEa.get hg4
  have hz4 : rs = [] -> SrcZ (rsv h4) ar := fun e => ((hP.z (List.length_eq_zero_iff.1 (by rw [<- hrl, e]; rfl))).ext hE1).ext hEa
  have hcl := cloneR_sv (cr := cr) (hraw4.ext hEa) hz4 hP.nil (by omega) hr1
  rw [hrl] at hcl
  repeat (first | (show Wc _ _ _ _ _ _ _; first | refine Wc_seq ?_ | refine Wc_region ?_ | refine Wc_condT rfl ?_ | refine Wc_condF rfl ?_ | refine Wc_block ?_ | refine Wc_skip ?_ | refine Wc_exit ?_ | refine Wc_label ?_) | (show Wo _ _ _ [] _ _ _ _; refine Wo_nil ?_) | (show Wo _ _ _ (_ :: _) _ _ _ _; first | (show Wo _ _ _ (⟨_, _, _, _, _, some _⟩ :: _) _ _ _ _; refine Wo_off rfl rfl rfl ?_) | (show Wo _ _ _ (⟨_, _, _, _, _, some _⟩ :: _) _ _ _ _; refine Wo_off0 rfl rfl ?_) | (show Wo _ _ _ (⟨_, .move _, _, _, _, _⟩ :: _) _ _ _ _; refine Wo_do rfl rfl rfl rfl (A_move rfl) ?_) | (show Wo _ _ _ (⟨_, .assign _, _, _, _, _⟩ :: _) _ _ _ _; refine Wo_do rfl rfl rfl rfl (A_assign rfl) ?_) | (show Wo _ _ _ (⟨_, .pick _ _ _, _, _, _, _⟩ :: _) _ _ _ _; refine Wo_do rfl rfl rfl rfl (A_pickT rfl rfl) ?_) | (show Wo _ _ _ (⟨_, .pick _ _ _, _, _, _, _⟩ :: _) _ _ _ _; refine Wo_do rfl rfl rfl rfl (A_pickF rfl rfl) ?_) | (show Wo _ _ _ (⟨_, .unOp .not _ _, _, _, _, _⟩ :: _) _ _ _ _; refine Wo_do rfl rfl rfl rfl (A_not rfl) ?_) | (show Wo _ _ _ (⟨_, .makeFunc _ _ _, _, _, _, _⟩ :: _) _ _ _ _; refine Wo_do rfl rfl rfl rfl (A_mkF rfl rfl) ?_) | (show Wo _ _ _ (⟨_, .extract _ _, _, _, _, _⟩ :: _) _ _ _ _; refine Wo_do rfl rfl rfl rfl (A_extract rfl rfl) ?_) | (show Wo _ _ _ (⟨_, .fieldAddr _ _ _, _, _, _, _⟩ :: _) _ _ _ _; refine Wo_do rfl rfl rfl rfl (A_fieldAddr Fof.h rfl) ?_) | (show Wo _ _ _ (⟨_, .load _ _, _, _, _, _⟩ :: _) _ _ _ _; refine Wo_do rfl rfl rfl rfl (A_ld OneC.h rfl) ?_) | (show Wo _ _ _ (⟨_, .load _ _, _, _, _, _⟩ :: _) _ _ _ _; refine Wo_do rfl rfl rfl rfl (A_ldr RowC.h rfl) ?_) | (show Wo _ _ _ (⟨_, .call ⟨.builtin .len, _, _⟩, _, _, _, _⟩ :: _) _ _ _ _; refine Wo_do rfl rfl rfl rfl (A_lenS rfl rfl rfl Und.h rfl) ?_) | (show Wo _ _ _ (⟨_, .call ⟨.builtin .len, _, _⟩, _, _, _, _⟩ :: _) _ _ _ _; refine Wo_do rfl rfl rfl rfl (A_lenStr rfl rfl rfl Und.h rfl) ?_) | (show Wo _ _ _ (⟨_, .binOp .add _ _ _ _, _, _, _, _⟩ :: _) _ _ _ _; refine Wo_do rfl rfl rfl rfl (A_ad rfl rfl) ?_) | (show Wo _ _ _ (⟨_, .binOp .sub _ _ _ _, _, _, _, _⟩ :: _) _ _ _ _; refine Wo_do rfl rfl rfl rfl (A_sb rfl rfl) ?_)))
  refine Wc_draw hmix [0, 1, 3, 0, 8, 31, 63, 127] [0, 1, 3, 4] (some 2) [([], (some 5)), ([6], (some 7)), ([], none)] (by kernel_rfl) (by kernel_rfl) ?_
  refine Wp_pure rfl rfl rfl rfl rfl (fun _ => A_fieldAddr Fof.h rfl) ?_
  refine Wp_pure rfl rfl rfl rfl rfl (fun _ => A_ld OneC.h rfl) ?_
  refine Wp_pure rfl rfl rfl rfl rfl (fun _ => A_ldr RowC.h rfl) ?_
  refine Wp_new (nk := .sl _ _) rfl rfl rfl rfl rfl (fun _ _ hs => N_bs hs Und.h Tsz.h Zr.h rfl rfl rfl rfl rfl) ?_
  refine Wp_eff (h1 := (rsv h4)) [0, 1] (by kernel_rfl) rfl (Stl_nil rfl) rfl rfl rfl (W1_wfK (W1_call rfl rfl rfl rfl rfl Bod.h hcl (fun v5 h5 hv hw5 => ?_) (fun _ _ hR => hR.elim)))
  obtain ⟨hF5, hE5r⟩ := hv
  have hE5 := hEa.trans hE5r
  have hU5 := Upd.mk' h5 h4.nx (.cells [str x.name, .slice ax x.machines.length cx, i64 x.ready, i64 x.due, i64 x.risk] 63 false)
  have hx5' : h4.nx + 1 <= h5.nx := hE5r.2.1
  have hE5' := hU5.ext hE5 hW4 (Nat.le_refl _)
  have hw5' := hw5.upd hU5 (by omega)
  have hF5' := (hF5.updL hU5 (Nat.lt_succ_self _)).base (h0 := h4) (Nat.le_succ _)
  have hg15 := hE5'.get hg1
  have hg25 := hE5'.get hg2
  have hg15o := hE5.get hg1
  have hg25o := hE5.get hg2
  refine Wp_eff (h1 := (h5.set h4.nx (.cells [str x.name, .slice ax x.machines.length cx, i64 x.ready, i64 x.due, i64 x.risk] 63 false))) [0, 1, 2, 3, 4] (by kernel_rfl) rfl (by refine Stl_new (i := 4) (nk := .sl _ _) rfl rfl rfl rfl rfl (fun _ _ hs => N_bs hs Und.h Tsz.h Zr.h rfl rfl rfl rfl rfl) rfl ?_; refine Stl_pure (i := 3) rfl rfl rfl rfl rfl (fun _ => A_ldr RowC.h rfl) rfl ?_; exact Stl_nil rfl) rfl rfl rfl (W1_wfK (W1_appendF (by' := 64) (sz := 5) (k := 1) (n := t.reels.length) (l := [str x.name, .slice ax x.machines.length cx, i64 x.ready, i64 x.due, i64 x.risk]) rfl hW4 hw5' hE5' rfl rfl rfl rfl Und.h inferInstance rfl rfl hF5' ((FreshSl.lit (h0 := h4) (n := 1) (sz := 5) hU5.at' rfl (Nat.le_refl _)).src (dd := .slice 63) Und.h (by intro k; simp)) rfl rfl (by omega) (by omega) (fun v6 h6 hF6 hE6 hK6 hx6 hv6 hw6 => ?_)))
  have hcat : catR rs ++ [str x.name, .slice ax x.machines.length cx, i64 x.ready, i64 x.due, i64 x.risk] = catR (rs ++ [[str x.name, .slice ax x.machines.length cx, i64 x.ready, i64 x.due, i64 x.risk]]) := by rw [catR_append]; simp
  have hlen1 : (rs ++ [[str x.name, Value.slice ax x.machines.length cx, i64 x.ready, i64 x.due, i64 x.risk]]).length = t.reels.length + 1 := by rw [List.length_append, hrl]; rfl
  rw [hcat, <- hlen1] at hF6
  obtain ⟨a6, rfl, _, _⟩ := hF6.is
  have hgu := hE6.get hg4
  have hg16 := hE6.get hg1
  have hg26 := hE6.get hg2
  refine Wp_pure rfl rfl rfl rfl rfl (fun _ => A_fieldAddr Fof.h rfl) ?_
  refine Wp_eff (h1 := h6) [0, 1, 2, 3, 4, 5, 6] (by kernel_rfl) rfl (Stl_nil rfl) rfl rfl rfl (W1_wfK (W1_store rfl rfl Tsz.h rfl rfl hgu rfl rfl rfl (fun h7 hU7 hw7 => ?_)))
  refine Wp_end (h1 := h7) (Stl_nil rfl) rfl ?_
  have hE37 : Ext h3 h7 := hU7.ext (hE4.trans hE6) hw3 (Nat.le_of_eq hbue)
  have hF7 := (hF6.updL hU7 hbu4).base (h0 := h3) hE4.2.1
  have hE07 := hE0.trans hE37
  have hgu7 := hU7.at'
  have hg17 := hU7.get (show b2 ≠ bu from fun e => by rw [e] at hb2; omega) hg16
  have hUT : TaskAt h7 [i64 t.first, i64 t.days, .slice am t.machines.length cm, .slice a6 (rs ++ [[str x.name, Value.slice ax x.machines.length cx, i64 x.ready, i64 x.due, i64 x.risk]]).length (rs ++ [[str x.name, Value.slice ax x.machines.length cx, i64 x.ready, i64 x.due, i64 x.risk]]).length] (plus t x) :=
    task_raw (RowsAt.ext (R := MachAt) (fun x y => MachAt.ext x y) hM hE07) hF7 (fun r hr => by
      rcases List.mem_append.1 hr with g | g
      · exact hraw.len r g
      · rw [List.mem_singleton.1 g]; rfl) (by rw [hlen1, List.length_append]; rfl) fun i h1 h2 => (rows_plus hrl hrr hx0 i h1 h2).ext hE07
  have hUF := plus_Fit hf hxf (show t.reels.length < 1000000 by omega)
  rw [hlen1] at hgu7 hUT
  clear hU7 hF7 hF6 hE6 hgu hg16 hg26 hF5 hF5' hE5 hE5r hE5' hw5' hU5 hK6 hv6 hx6 hg15 hg25 hg15o hg25o hcl hz4 hEa hg1a hg2a hg4a hg1 hg2 hw5 hw6 hraw4 hg4 hW4 hn4 hE4 hE1 hcat
  repeat (first | (show Wc _ _ _ _ _ _ _; first | refine Wc_seq ?_ | refine Wc_region ?_ | refine Wc_condT rfl ?_ | refine Wc_condF rfl ?_ | refine Wc_block ?_ | refine Wc_skip ?_ | refine Wc_exit ?_ | refine Wc_label ?_) | (show Wo _ _ _ [] _ _ _ _; refine Wo_nil ?_) | (show Wo _ _ _ (_ :: _) _ _ _ _; first | (show Wo _ _ _ (⟨_, _, _, _, _, some _⟩ :: _) _ _ _ _; refine Wo_off rfl rfl rfl ?_) | (show Wo _ _ _ (⟨_, _, _, _, _, some _⟩ :: _) _ _ _ _; refine Wo_off0 rfl rfl ?_) | (show Wo _ _ _ (⟨_, .move _, _, _, _, _⟩ :: _) _ _ _ _; refine Wo_do rfl rfl rfl rfl (A_move rfl) ?_) | (show Wo _ _ _ (⟨_, .assign _, _, _, _, _⟩ :: _) _ _ _ _; refine Wo_do rfl rfl rfl rfl (A_assign rfl) ?_) | (show Wo _ _ _ (⟨_, .pick _ _ _, _, _, _, _⟩ :: _) _ _ _ _; refine Wo_do rfl rfl rfl rfl (A_pickT rfl rfl) ?_) | (show Wo _ _ _ (⟨_, .pick _ _ _, _, _, _, _⟩ :: _) _ _ _ _; refine Wo_do rfl rfl rfl rfl (A_pickF rfl rfl) ?_) | (show Wo _ _ _ (⟨_, .unOp .not _ _, _, _, _, _⟩ :: _) _ _ _ _; refine Wo_do rfl rfl rfl rfl (A_not rfl) ?_) | (show Wo _ _ _ (⟨_, .makeFunc _ _ _, _, _, _, _⟩ :: _) _ _ _ _; refine Wo_do rfl rfl rfl rfl (A_mkF rfl rfl) ?_) | (show Wo _ _ _ (⟨_, .extract _ _, _, _, _, _⟩ :: _) _ _ _ _; refine Wo_do rfl rfl rfl rfl (A_extract rfl rfl) ?_) | (show Wo _ _ _ (⟨_, .fieldAddr _ _ _, _, _, _, _⟩ :: _) _ _ _ _; refine Wo_do rfl rfl rfl rfl (A_fieldAddr Fof.h rfl) ?_) | (show Wo _ _ _ (⟨_, .load _ _, _, _, _, _⟩ :: _) _ _ _ _; refine Wo_do rfl rfl rfl rfl (A_ld OneC.h rfl) ?_) | (show Wo _ _ _ (⟨_, .load _ _, _, _, _, _⟩ :: _) _ _ _ _; refine Wo_do rfl rfl rfl rfl (A_ldr RowC.h rfl) ?_) | (show Wo _ _ _ (⟨_, .call ⟨.builtin .len, _, _⟩, _, _, _, _⟩ :: _) _ _ _ _; refine Wo_do rfl rfl rfl rfl (A_lenS rfl rfl rfl Und.h rfl) ?_) | (show Wo _ _ _ (⟨_, .call ⟨.builtin .len, _, _⟩, _, _, _, _⟩ :: _) _ _ _ _; refine Wo_do rfl rfl rfl rfl (A_lenStr rfl rfl rfl Und.h rfl) ?_) | (show Wo _ _ _ (⟨_, .binOp .add _ _ _ _, _, _, _, _⟩ :: _) _ _ _ _; refine Wo_do rfl rfl rfl rfl (A_ad rfl rfl) ?_) | (show Wo _ _ _ (⟨_, .binOp .sub _ _ _ _, _, _, _, _⟩ :: _) _ _ _ _; refine Wo_do rfl rfl rfl rfl (A_sb rfl rfl) ?_)))
  refine Wo_callE rfl rfl rfl rfl rfl Bod.h rfl rfl (rescueCheck_sv hUT hUF) fun h8 hE8 => ?_
  unfold tup3
  replace hg17 := hE8.get hg17
  replace hgu7 := hE8.get hgu7
  replace hUT := hUT.ext hE8
  replace hE07 := hE07.trans hE8
  clear hE8
  repeat (first | (show Wc _ _ _ _ _ _ _; first | refine Wc_seq ?_ | refine Wc_region ?_ | refine Wc_condT rfl ?_ | refine Wc_condF rfl ?_ | refine Wc_block ?_ | refine Wc_skip ?_ | refine Wc_exit ?_ | refine Wc_label ?_) | (show Wo _ _ _ [] _ _ _ _; refine Wo_nil ?_) | (show Wo _ _ _ (_ :: _) _ _ _ _; first | (show Wo _ _ _ (⟨_, _, _, _, _, some _⟩ :: _) _ _ _ _; refine Wo_off rfl rfl rfl ?_) | (show Wo _ _ _ (⟨_, _, _, _, _, some _⟩ :: _) _ _ _ _; refine Wo_off0 rfl rfl ?_) | (show Wo _ _ _ (⟨_, .move _, _, _, _, _⟩ :: _) _ _ _ _; refine Wo_do rfl rfl rfl rfl (A_move rfl) ?_) | (show Wo _ _ _ (⟨_, .assign _, _, _, _, _⟩ :: _) _ _ _ _; refine Wo_do rfl rfl rfl rfl (A_assign rfl) ?_) | (show Wo _ _ _ (⟨_, .pick _ _ _, _, _, _, _⟩ :: _) _ _ _ _; refine Wo_do rfl rfl rfl rfl (A_pickT rfl rfl) ?_) | (show Wo _ _ _ (⟨_, .pick _ _ _, _, _, _, _⟩ :: _) _ _ _ _; refine Wo_do rfl rfl rfl rfl (A_pickF rfl rfl) ?_) | (show Wo _ _ _ (⟨_, .unOp .not _ _, _, _, _, _⟩ :: _) _ _ _ _; refine Wo_do rfl rfl rfl rfl (A_not rfl) ?_) | (show Wo _ _ _ (⟨_, .makeFunc _ _ _, _, _, _, _⟩ :: _) _ _ _ _; refine Wo_do rfl rfl rfl rfl (A_mkF rfl rfl) ?_) | (show Wo _ _ _ (⟨_, .extract _ _, _, _, _, _⟩ :: _) _ _ _ _; refine Wo_do rfl rfl rfl rfl (A_extract rfl rfl) ?_) | (show Wo _ _ _ (⟨_, .fieldAddr _ _ _, _, _, _, _⟩ :: _) _ _ _ _; refine Wo_do rfl rfl rfl rfl (A_fieldAddr Fof.h rfl) ?_) | (show Wo _ _ _ (⟨_, .load _ _, _, _, _, _⟩ :: _) _ _ _ _; refine Wo_do rfl rfl rfl rfl (A_ld OneC.h rfl) ?_) | (show Wo _ _ _ (⟨_, .load _ _, _, _, _, _⟩ :: _) _ _ _ _; refine Wo_do rfl rfl rfl rfl (A_ldr RowC.h rfl) ?_) | (show Wo _ _ _ (⟨_, .call ⟨.builtin .len, _, _⟩, _, _, _, _⟩ :: _) _ _ _ _; refine Wo_do rfl rfl rfl rfl (A_lenS rfl rfl rfl Und.h rfl) ?_) | (show Wo _ _ _ (⟨_, .call ⟨.builtin .len, _, _⟩, _, _, _, _⟩ :: _) _ _ _ _; refine Wo_do rfl rfl rfl rfl (A_lenStr rfl rfl rfl Und.h rfl) ?_) | (show Wo _ _ _ (⟨_, .binOp .add _ _ _ _, _, _, _, _⟩ :: _) _ _ _ _; refine Wo_do rfl rfl rfl rfl (A_ad rfl rfl) ?_) | (show Wo _ _ _ (⟨_, .binOp .sub _ _ _ _, _, _, _, _⟩ :: _) _ _ _ _; refine Wo_do rfl rfl rfl rfl (A_sb rfl rfl) ?_)))
  by_cases c2 : errS (plus t x) = 0
  rotate_left
  · refine Wo_do rfl rfl rfl rfl (A_tt c2 (A_neq rfl rfl)) ?_
    repeat (first | (show Wc _ _ _ _ _ _ _; first | refine Wc_seq ?_ | refine Wc_region ?_ | refine Wc_condT rfl ?_ | refine Wc_condF rfl ?_ | refine Wc_block ?_ | refine Wc_skip ?_ | refine Wc_exit ?_ | refine Wc_label ?_) | (show Wo _ _ _ [] _ _ _ _; refine Wo_nil ?_) | (show Wo _ _ _ (_ :: _) _ _ _ _; first | (show Wo _ _ _ (⟨_, _, _, _, _, some _⟩ :: _) _ _ _ _; refine Wo_off rfl rfl rfl ?_) | (show Wo _ _ _ (⟨_, _, _, _, _, some _⟩ :: _) _ _ _ _; refine Wo_off0 rfl rfl ?_) | (show Wo _ _ _ (⟨_, .move _, _, _, _, _⟩ :: _) _ _ _ _; refine Wo_do rfl rfl rfl rfl (A_move rfl) ?_) | (show Wo _ _ _ (⟨_, .assign _, _, _, _, _⟩ :: _) _ _ _ _; refine Wo_do rfl rfl rfl rfl (A_assign rfl) ?_) | (show Wo _ _ _ (⟨_, .pick _ _ _, _, _, _, _⟩ :: _) _ _ _ _; refine Wo_do rfl rfl rfl rfl (A_pickT rfl rfl) ?_) | (show Wo _ _ _ (⟨_, .pick _ _ _, _, _, _, _⟩ :: _) _ _ _ _; refine Wo_do rfl rfl rfl rfl (A_pickF rfl rfl) ?_) | (show Wo _ _ _ (⟨_, .unOp .not _ _, _, _, _, _⟩ :: _) _ _ _ _; refine Wo_do rfl rfl rfl rfl (A_not rfl) ?_) | (show Wo _ _ _ (⟨_, .makeFunc _ _ _, _, _, _, _⟩ :: _) _ _ _ _; refine Wo_do rfl rfl rfl rfl (A_mkF rfl rfl) ?_) | (show Wo _ _ _ (⟨_, .extract _ _, _, _, _, _⟩ :: _) _ _ _ _; refine Wo_do rfl rfl rfl rfl (A_extract rfl rfl) ?_) | (show Wo _ _ _ (⟨_, .fieldAddr _ _ _, _, _, _, _⟩ :: _) _ _ _ _; refine Wo_do rfl rfl rfl rfl (A_fieldAddr Fof.h rfl) ?_) | (show Wo _ _ _ (⟨_, .load _ _, _, _, _, _⟩ :: _) _ _ _ _; refine Wo_do rfl rfl rfl rfl (A_ld OneC.h rfl) ?_) | (show Wo _ _ _ (⟨_, .load _ _, _, _, _, _⟩ :: _) _ _ _ _; refine Wo_do rfl rfl rfl rfl (A_ldr RowC.h rfl) ?_) | (show Wo _ _ _ (⟨_, .call ⟨.builtin .len, _, _⟩, _, _, _, _⟩ :: _) _ _ _ _; refine Wo_do rfl rfl rfl rfl (A_lenS rfl rfl rfl Und.h rfl) ?_) | (show Wo _ _ _ (⟨_, .call ⟨.builtin .len, _, _⟩, _, _, _, _⟩ :: _) _ _ _ _; refine Wo_do rfl rfl rfl rfl (A_lenStr rfl rfl rfl Und.h rfl) ?_) | (show Wo _ _ _ (⟨_, .binOp .add _ _ _ _, _, _, _, _⟩ :: _) _ _ _ _; refine Wo_do rfl rfl rfl rfl (A_ad rfl rfl) ?_) | (show Wo _ _ _ (⟨_, .binOp .sub _ _ _ _, _, _, _, _⟩ :: _) _ _ _ _; refine Wo_do rfl rfl rfl rfl (A_sb rfl rfl) ?_)))
    have hS : roomS t x = (false, errS (plus t x)) := by unfold roomS; rw [if_neg (fun x => x c0), if_pos c2]
    rw [hS]
    exact Wc_ret (Lv_ret rfl ⟨rfl, hE07⟩)
  have hUV := valid_of c2
  refine Wo_do rfl rfl rfl rfl (A_ff (fun x => x c2) (A_neq rfl rfl)) ?_
  repeat (first | (show Wc _ _ _ _ _ _ _; first | refine Wc_seq ?_ | refine Wc_region ?_ | refine Wc_condT rfl ?_ | refine Wc_condF rfl ?_ | refine Wc_block ?_ | refine Wc_skip ?_ | refine Wc_exit ?_ | refine Wc_label ?_) | (show Wo _ _ _ [] _ _ _ _; refine Wo_nil ?_) | (show Wo _ _ _ (_ :: _) _ _ _ _; first | (show Wo _ _ _ (⟨_, _, _, _, _, some _⟩ :: _) _ _ _ _; refine Wo_off rfl rfl rfl ?_) | (show Wo _ _ _ (⟨_, _, _, _, _, some _⟩ :: _) _ _ _ _; refine Wo_off0 rfl rfl ?_) | (show Wo _ _ _ (⟨_, .move _, _, _, _, _⟩ :: _) _ _ _ _; refine Wo_do rfl rfl rfl rfl (A_move rfl) ?_) | (show Wo _ _ _ (⟨_, .assign _, _, _, _, _⟩ :: _) _ _ _ _; refine Wo_do rfl rfl rfl rfl (A_assign rfl) ?_) | (show Wo _ _ _ (⟨_, .pick _ _ _, _, _, _, _⟩ :: _) _ _ _ _; refine Wo_do rfl rfl rfl rfl (A_pickT rfl rfl) ?_) | (show Wo _ _ _ (⟨_, .pick _ _ _, _, _, _, _⟩ :: _) _ _ _ _; refine Wo_do rfl rfl rfl rfl (A_pickF rfl rfl) ?_) | (show Wo _ _ _ (⟨_, .unOp .not _ _, _, _, _, _⟩ :: _) _ _ _ _; refine Wo_do rfl rfl rfl rfl (A_not rfl) ?_) | (show Wo _ _ _ (⟨_, .makeFunc _ _ _, _, _, _, _⟩ :: _) _ _ _ _; refine Wo_do rfl rfl rfl rfl (A_mkF rfl rfl) ?_) | (show Wo _ _ _ (⟨_, .extract _ _, _, _, _, _⟩ :: _) _ _ _ _; refine Wo_do rfl rfl rfl rfl (A_extract rfl rfl) ?_) | (show Wo _ _ _ (⟨_, .fieldAddr _ _ _, _, _, _, _⟩ :: _) _ _ _ _; refine Wo_do rfl rfl rfl rfl (A_fieldAddr Fof.h rfl) ?_) | (show Wo _ _ _ (⟨_, .load _ _, _, _, _, _⟩ :: _) _ _ _ _; refine Wo_do rfl rfl rfl rfl (A_ld OneC.h rfl) ?_) | (show Wo _ _ _ (⟨_, .load _ _, _, _, _, _⟩ :: _) _ _ _ _; refine Wo_do rfl rfl rfl rfl (A_ldr RowC.h rfl) ?_) | (show Wo _ _ _ (⟨_, .call ⟨.builtin .len, _, _⟩, _, _, _, _⟩ :: _) _ _ _ _; refine Wo_do rfl rfl rfl rfl (A_lenS rfl rfl rfl Und.h rfl) ?_) | (show Wo _ _ _ (⟨_, .call ⟨.builtin .len, _, _⟩, _, _, _, _⟩ :: _) _ _ _ _; refine Wo_do rfl rfl rfl rfl (A_lenStr rfl rfl rfl Und.h rfl) ?_) | (show Wo _ _ _ (⟨_, .binOp .add _ _ _ _, _, _, _, _⟩ :: _) _ _ _ _; refine Wo_do rfl rfl rfl rfl (A_ad rfl rfl) ?_) | (show Wo _ _ _ (⟨_, .binOp .sub _ _ _ _, _, _, _, _⟩ :: _) _ _ _ _; refine Wo_do rfl rfl rfl rfl (A_sb rfl rfl) ?_)))
  refine Wo_wf fun hw8 => ?_
  refine Wo_callr rfl rfl rfl rfl rfl Bod.h rfl rfl (choose_sv (ht0.ext hE07) hf hV) ?_
  rintro _ h9 ⟨v1, v3, PL, rfl, hO, hPL, hE9⟩
  have hF1 : FreshSl h8 h9 v1 3 1 ((keptI t).map i64) (keptI t).length := hO.p1
  have hg19 := hE9.get hg17
  have hgu9 := hE9.get hgu7
  have hkl := keptI_len t
  have hkpl : (keptI t ++ [(t.reels.length : Int)]).length = (keptI t).length + 1 := by rw [List.length_append]; rfl
  refine Wo_wf fun hw9 => ?_
  repeat (first | (show Wc _ _ _ _ _ _ _; first | refine Wc_seq ?_ | refine Wc_region ?_ | refine Wc_condT rfl ?_ | refine Wc_condF rfl ?_ | refine Wc_block ?_ | refine Wc_skip ?_ | refine Wc_exit ?_ | refine Wc_label ?_) | (show Wo _ _ _ [] _ _ _ _; refine Wo_nil ?_) | (show Wo _ _ _ (_ :: _) _ _ _ _; first | (show Wo _ _ _ (⟨_, _, _, _, _, some _⟩ :: _) _ _ _ _; refine Wo_off rfl rfl rfl ?_) | (show Wo _ _ _ (⟨_, _, _, _, _, some _⟩ :: _) _ _ _ _; refine Wo_off0 rfl rfl ?_) | (show Wo _ _ _ (⟨_, .move _, _, _, _, _⟩ :: _) _ _ _ _; refine Wo_do rfl rfl rfl rfl (A_move rfl) ?_) | (show Wo _ _ _ (⟨_, .assign _, _, _, _, _⟩ :: _) _ _ _ _; refine Wo_do rfl rfl rfl rfl (A_assign rfl) ?_) | (show Wo _ _ _ (⟨_, .pick _ _ _, _, _, _, _⟩ :: _) _ _ _ _; refine Wo_do rfl rfl rfl rfl (A_pickT rfl rfl) ?_) | (show Wo _ _ _ (⟨_, .pick _ _ _, _, _, _, _⟩ :: _) _ _ _ _; refine Wo_do rfl rfl rfl rfl (A_pickF rfl rfl) ?_) | (show Wo _ _ _ (⟨_, .unOp .not _ _, _, _, _, _⟩ :: _) _ _ _ _; refine Wo_do rfl rfl rfl rfl (A_not rfl) ?_) | (show Wo _ _ _ (⟨_, .makeFunc _ _ _, _, _, _, _⟩ :: _) _ _ _ _; refine Wo_do rfl rfl rfl rfl (A_mkF rfl rfl) ?_) | (show Wo _ _ _ (⟨_, .extract _ _, _, _, _, _⟩ :: _) _ _ _ _; refine Wo_do rfl rfl rfl rfl (A_extract rfl rfl) ?_) | (show Wo _ _ _ (⟨_, .fieldAddr _ _ _, _, _, _, _⟩ :: _) _ _ _ _; refine Wo_do rfl rfl rfl rfl (A_fieldAddr Fof.h rfl) ?_) | (show Wo _ _ _ (⟨_, .load _ _, _, _, _, _⟩ :: _) _ _ _ _; refine Wo_do rfl rfl rfl rfl (A_ld OneC.h rfl) ?_) | (show Wo _ _ _ (⟨_, .load _ _, _, _, _, _⟩ :: _) _ _ _ _; refine Wo_do rfl rfl rfl rfl (A_ldr RowC.h rfl) ?_) | (show Wo _ _ _ (⟨_, .call ⟨.builtin .len, _, _⟩, _, _, _, _⟩ :: _) _ _ _ _; refine Wo_do rfl rfl rfl rfl (A_lenS rfl rfl rfl Und.h rfl) ?_) | (show Wo _ _ _ (⟨_, .call ⟨.builtin .len, _, _⟩, _, _, _, _⟩ :: _) _ _ _ _; refine Wo_do rfl rfl rfl rfl (A_lenStr rfl rfl rfl Und.h rfl) ?_) | (show Wo _ _ _ (⟨_, .binOp .add _ _ _ _, _, _, _, _⟩ :: _) _ _ _ _; refine Wo_do rfl rfl rfl rfl (A_ad rfl rfl) ?_) | (show Wo _ _ _ (⟨_, .binOp .sub _ _ _ _, _, _, _, _⟩ :: _) _ _ _ _; refine Wo_do rfl rfl rfl rfl (A_sb rfl rfl) ?_)))
  have hEb := Ext.add hw9 (.cells [i64 (t.reels.length : Nat)] 3 false)
  have hg17b := hEb.get hg19
  have hgu7b := hEb.get hgu9
  refine Wc_draw hmix [0, 0, 0, 4, 12, 28, 62, 127, 255, 511] [0, 1, 2, 3, 4, 5] (some 6) [([], (some 7)), ([], (some 8)), ([], (some 9)), ([], none)] (by kernel_rfl) (by kernel_rfl) ?_
  refine Wp_pure rfl rfl rfl rfl rfl (fun _ => A_ldr RowC.h rfl) ?_
  refine Wp_pure rfl rfl rfl rfl rfl (fun _ => A_move rfl) ?_
  refine Wp_pure rfl rfl rfl rfl rfl (fun _ => A_fieldAddr Fof.h rfl) ?_
  refine Wp_pure rfl rfl rfl rfl rfl (fun _ => A_ld OneC.h rfl) ?_
  refine Wp_pure rfl rfl rfl rfl rfl (fun _ => A_lenS rfl rfl rfl Und.h rfl) ?_
  refine Wp_new (nk := .sl _ _) rfl rfl rfl rfl rfl (fun _ _ hs => N_bs hs Und.h Tsz.h Zr.h rfl rfl rfl rfl rfl) ?_
  refine Wp_eff (h1 := (Heap.add h9 _)) [1, 2, 3, 4, 5] (by kernel_rfl) rfl (Stl_nil rfl) rfl rfl rfl (W1_wfK (W1_appendF (by' := 8) (k := 1) (n := (keptI t).length) (l := [i64 (t.reels.length : Nat)]) rfl hw8 (hw9.add _) (hE9.trans hEb) rfl rfl rfl rfl Und.h inferInstance rfl rfl (hF1.ext hEb) ((FreshSl.lit (h0 := h8) (n := 1) (sz := 1) Heap.get_add_same rfl hE9.2.1).src (dd := .slice 3) Und.h (by intro k; simp)) rfl rfl (by omega) (by omega) (fun v10 h10 hF10 hE10 hK10 hx10 hv10 hw10 => ?_)))
  have hkm : (keptI t).map i64 ++ [i64 (t.reels.length : Nat)] = (keptI t ++ [(t.reels.length : Int)]).map i64 := by rw [List.map_append]; rfl
  rw [hkm, <- hkpl] at hF10
  obtain ⟨a10, rfl, _, hs10⟩ := hF10.srcAt
  have hg1a := hE10.get hg17
  have hgua := hE10.get hgu7
  have hfit := fits_sv (gb := 57) (fb := []) (cb := []) (bar := fun _ => false) (cap := (keptI t ++ [(t.reels.length : Int)]).length) (hUT.ext hE10) hUF hUV hs10.1 (kept_plus t).1 (fun y hy => by rw [plus_len]; exact (kept_plus t).2 y hy) (by omega) Bod.h (fun h3 _ p => free_sv p h3)
  refine Wp_eff (h1 := h10) [0, 1, 2, 3, 4, 5, 6] (by kernel_rfl) rfl (by refine Stl_pure (i := 0) rfl rfl rfl rfl rfl (fun _ => A_ldr RowC.h rfl) rfl ?_; exact Stl_nil rfl) rfl rfl rfl (W1_call rfl rfl rfl rfl rfl Bod.h hfit (fun v11 h11 hv => ?_) (fun _ _ hR => hR.elim))
  obtain ⟨b11, rfl, hb11, hE11⟩ := hv
  have hg1c := hE11.get hg1a
  have hguc := hE11.get hgua
  replace hE07 := hE07.trans hE10
  refine Wp_eff (h1 := h11) [0, 1, 2, 3, 4, 5, 6, 7] (by kernel_rfl) rfl (Stl_nil rfl) rfl rfl rfl (W1_op rfl rfl (A_assign rfl) ?_)
  refine Wp_eff (h1 := h11) [0, 1, 2, 3, 4, 5, 6, 7, 8] (by kernel_rfl) rfl (Stl_nil rfl) rfl rfl rfl (W1_op rfl rfl (A_assign rfl) ?_)
  refine Wp_end (Stl_nil rfl) rfl ?_
  have hS : roomS t x = (b11, 0) := by unfold roomS; rw [if_neg (fun x => x c0), if_neg (fun x => x c2), <- room_fit (kept_nats t) hb11]
  repeat (first | (show Wc _ _ _ _ _ _ _; first | refine Wc_seq ?_ | refine Wc_region ?_ | refine Wc_condT rfl ?_ | refine Wc_condF rfl ?_ | refine Wc_block ?_ | refine Wc_skip ?_ | refine Wc_exit ?_ | refine Wc_label ?_) | (show Wo _ _ _ [] _ _ _ _; refine Wo_nil ?_) | (show Wo _ _ _ (_ :: _) _ _ _ _; first | (show Wo _ _ _ (⟨_, _, _, _, _, some _⟩ :: _) _ _ _ _; refine Wo_off rfl rfl rfl ?_) | (show Wo _ _ _ (⟨_, _, _, _, _, some _⟩ :: _) _ _ _ _; refine Wo_off0 rfl rfl ?_) | (show Wo _ _ _ (⟨_, .move _, _, _, _, _⟩ :: _) _ _ _ _; refine Wo_do rfl rfl rfl rfl (A_move rfl) ?_) | (show Wo _ _ _ (⟨_, .assign _, _, _, _, _⟩ :: _) _ _ _ _; refine Wo_do rfl rfl rfl rfl (A_assign rfl) ?_) | (show Wo _ _ _ (⟨_, .pick _ _ _, _, _, _, _⟩ :: _) _ _ _ _; refine Wo_do rfl rfl rfl rfl (A_pickT rfl rfl) ?_) | (show Wo _ _ _ (⟨_, .pick _ _ _, _, _, _, _⟩ :: _) _ _ _ _; refine Wo_do rfl rfl rfl rfl (A_pickF rfl rfl) ?_) | (show Wo _ _ _ (⟨_, .unOp .not _ _, _, _, _, _⟩ :: _) _ _ _ _; refine Wo_do rfl rfl rfl rfl (A_not rfl) ?_) | (show Wo _ _ _ (⟨_, .makeFunc _ _ _, _, _, _, _⟩ :: _) _ _ _ _; refine Wo_do rfl rfl rfl rfl (A_mkF rfl rfl) ?_) | (show Wo _ _ _ (⟨_, .extract _ _, _, _, _, _⟩ :: _) _ _ _ _; refine Wo_do rfl rfl rfl rfl (A_extract rfl rfl) ?_) | (show Wo _ _ _ (⟨_, .fieldAddr _ _ _, _, _, _, _⟩ :: _) _ _ _ _; refine Wo_do rfl rfl rfl rfl (A_fieldAddr Fof.h rfl) ?_) | (show Wo _ _ _ (⟨_, .load _ _, _, _, _, _⟩ :: _) _ _ _ _; refine Wo_do rfl rfl rfl rfl (A_ld OneC.h rfl) ?_) | (show Wo _ _ _ (⟨_, .load _ _, _, _, _, _⟩ :: _) _ _ _ _; refine Wo_do rfl rfl rfl rfl (A_ldr RowC.h rfl) ?_) | (show Wo _ _ _ (⟨_, .call ⟨.builtin .len, _, _⟩, _, _, _, _⟩ :: _) _ _ _ _; refine Wo_do rfl rfl rfl rfl (A_lenS rfl rfl rfl Und.h rfl) ?_) | (show Wo _ _ _ (⟨_, .call ⟨.builtin .len, _, _⟩, _, _, _, _⟩ :: _) _ _ _ _; refine Wo_do rfl rfl rfl rfl (A_lenStr rfl rfl rfl Und.h rfl) ?_) | (show Wo _ _ _ (⟨_, .binOp .add _ _ _ _, _, _, _, _⟩ :: _) _ _ _ _; refine Wo_do rfl rfl rfl rfl (A_ad rfl rfl) ?_) | (show Wo _ _ _ (⟨_, .binOp .sub _ _ _ _, _, _, _, _⟩ :: _) _ _ _ _; refine Wo_do rfl rfl rfl rfl (A_sb rfl rfl) ?_)))
  rw [hS]
  exact Wc_ret (Lv_ret rfl ⟨rfl, hE07.trans hE11⟩)
end Go.Dw
/- Z8: RescueRooms: its contract, for any workshop and reel. -/
namespace Go.Dw
open Go Go.Dx Go.Proofs Go.Mt
set_option maxRecDepth 100000
theorem rescueRooms_sv {tc xc : List Value} {t : Task} {x : Reel} {h : Heap} (ht : TaskP h tc t) (hf : t.Fit) (hx : ReelAt h xc x) (hxf : x.Fit) :
    Sv Tryz.prog 14 [.agg ⟨tc⟩, .agg ⟨xc⟩] h (RetP fun v h' => v = .bool true /\ Ext h h') := by
  have ht0 := ht
  have hx0 := hx
  obtain ⟨am, cm, ar, cr, rfl, _, _, _⟩ := ht
  obtain ⟨ax, cx, rfl, _⟩ := hx
  refine Sv_enter Tryz.func14 rfl (by rw [Tryz.ntmps14]; rfl) ?_; show Wc Tryz.prog ⟨14, 32, none⟩ _ _ _ _ _
  repeat (first | (show Wc _ _ _ _ _ _ _; first | refine Wc_seq ?_ | refine Wc_region ?_ | refine Wc_condT rfl ?_ | refine Wc_condF rfl ?_ | refine Wc_block ?_ | refine Wc_skip ?_ | refine Wc_exit ?_ | refine Wc_label ?_) | (show Wo _ _ _ [] _ _ _ _; refine Wo_nil ?_) | (show Wo _ _ _ (_ :: _) _ _ _ _; first | (show Wo _ _ _ (⟨_, _, _, _, _, some _⟩ :: _) _ _ _ _; refine Wo_off rfl rfl rfl ?_) | (show Wo _ _ _ (⟨_, _, _, _, _, some _⟩ :: _) _ _ _ _; refine Wo_off0 rfl rfl ?_) | (show Wo _ _ _ (⟨_, .move _, _, _, _, _⟩ :: _) _ _ _ _; refine Wo_do rfl rfl rfl rfl (A_move rfl) ?_) | (show Wo _ _ _ (⟨_, .assign _, _, _, _, _⟩ :: _) _ _ _ _; refine Wo_do rfl rfl rfl rfl (A_assign rfl) ?_) | (show Wo _ _ _ (⟨_, .pick _ _ _, _, _, _, _⟩ :: _) _ _ _ _; refine Wo_do rfl rfl rfl rfl (A_pickT rfl rfl) ?_) | (show Wo _ _ _ (⟨_, .pick _ _ _, _, _, _, _⟩ :: _) _ _ _ _; refine Wo_do rfl rfl rfl rfl (A_pickF rfl rfl) ?_) | (show Wo _ _ _ (⟨_, .unOp .not _ _, _, _, _, _⟩ :: _) _ _ _ _; refine Wo_do rfl rfl rfl rfl (A_not rfl) ?_) | (show Wo _ _ _ (⟨_, .makeFunc _ _ _, _, _, _, _⟩ :: _) _ _ _ _; refine Wo_do rfl rfl rfl rfl (A_mkF rfl rfl) ?_) | (show Wo _ _ _ (⟨_, .extract _ _, _, _, _, _⟩ :: _) _ _ _ _; refine Wo_do rfl rfl rfl rfl (A_extract rfl rfl) ?_) | (show Wo _ _ _ (⟨_, .fieldAddr _ _ _, _, _, _, _⟩ :: _) _ _ _ _; refine Wo_do rfl rfl rfl rfl (A_fieldAddr Fof.h rfl) ?_) | (show Wo _ _ _ (⟨_, .load _ _, _, _, _, _⟩ :: _) _ _ _ _; refine Wo_do rfl rfl rfl rfl (A_ld OneC.h rfl) ?_) | (show Wo _ _ _ (⟨_, .load _ _, _, _, _, _⟩ :: _) _ _ _ _; refine Wo_do rfl rfl rfl rfl (A_ldr RowC.h rfl) ?_) | (show Wo _ _ _ (⟨_, .call ⟨.builtin .len, _, _⟩, _, _, _, _⟩ :: _) _ _ _ _; refine Wo_do rfl rfl rfl rfl (A_lenS rfl rfl rfl Und.h rfl) ?_) | (show Wo _ _ _ (⟨_, .call ⟨.builtin .len, _, _⟩, _, _, _, _⟩ :: _) _ _ _ _; refine Wo_do rfl rfl rfl rfl (A_lenStr rfl rfl rfl Und.h rfl) ?_) | (show Wo _ _ _ (⟨_, .binOp .add _ _ _ _, _, _, _, _⟩ :: _) _ _ _ _; refine Wo_do rfl rfl rfl rfl (A_ad rfl rfl) ?_) | (show Wo _ _ _ (⟨_, .binOp .sub _ _ _ _, _, _, _, _⟩ :: _) _ _ _ _; refine Wo_do rfl rfl rfl rfl (A_sb rfl rfl) ?_)))
  refine Wo_box rfl rfl rfl fun h1 hE1 hW1 hg1 hn1 => ?_
  refine Wo_box rfl rfl rfl fun h2 hE2 hW2 hg2 hn2 => ?_
  replace hg1 := hE2.get hg1
  replace hE1 := hE1.trans hE2
  clear hE2 hW1 hn1
  generalize h.nx = b2 at *
  generalize h1.nx = b3 at *
  clear h1
  repeat (first | (show Wc _ _ _ _ _ _ _; first | refine Wc_seq ?_ | refine Wc_region ?_ | refine Wc_condT rfl ?_ | refine Wc_condF rfl ?_ | refine Wc_block ?_ | refine Wc_skip ?_ | refine Wc_exit ?_ | refine Wc_label ?_) | (show Wo _ _ _ [] _ _ _ _; refine Wo_nil ?_) | (show Wo _ _ _ (_ :: _) _ _ _ _; first | (show Wo _ _ _ (⟨_, _, _, _, _, some _⟩ :: _) _ _ _ _; refine Wo_off rfl rfl rfl ?_) | (show Wo _ _ _ (⟨_, _, _, _, _, some _⟩ :: _) _ _ _ _; refine Wo_off0 rfl rfl ?_) | (show Wo _ _ _ (⟨_, .move _, _, _, _, _⟩ :: _) _ _ _ _; refine Wo_do rfl rfl rfl rfl (A_move rfl) ?_) | (show Wo _ _ _ (⟨_, .assign _, _, _, _, _⟩ :: _) _ _ _ _; refine Wo_do rfl rfl rfl rfl (A_assign rfl) ?_) | (show Wo _ _ _ (⟨_, .pick _ _ _, _, _, _, _⟩ :: _) _ _ _ _; refine Wo_do rfl rfl rfl rfl (A_pickT rfl rfl) ?_) | (show Wo _ _ _ (⟨_, .pick _ _ _, _, _, _, _⟩ :: _) _ _ _ _; refine Wo_do rfl rfl rfl rfl (A_pickF rfl rfl) ?_) | (show Wo _ _ _ (⟨_, .unOp .not _ _, _, _, _, _⟩ :: _) _ _ _ _; refine Wo_do rfl rfl rfl rfl (A_not rfl) ?_) | (show Wo _ _ _ (⟨_, .makeFunc _ _ _, _, _, _, _⟩ :: _) _ _ _ _; refine Wo_do rfl rfl rfl rfl (A_mkF rfl rfl) ?_) | (show Wo _ _ _ (⟨_, .extract _ _, _, _, _, _⟩ :: _) _ _ _ _; refine Wo_do rfl rfl rfl rfl (A_extract rfl rfl) ?_) | (show Wo _ _ _ (⟨_, .fieldAddr _ _ _, _, _, _, _⟩ :: _) _ _ _ _; refine Wo_do rfl rfl rfl rfl (A_fieldAddr Fof.h rfl) ?_) | (show Wo _ _ _ (⟨_, .load _ _, _, _, _, _⟩ :: _) _ _ _ _; refine Wo_do rfl rfl rfl rfl (A_ld OneC.h rfl) ?_) | (show Wo _ _ _ (⟨_, .load _ _, _, _, _, _⟩ :: _) _ _ _ _; refine Wo_do rfl rfl rfl rfl (A_ldr RowC.h rfl) ?_) | (show Wo _ _ _ (⟨_, .call ⟨.builtin .len, _, _⟩, _, _, _, _⟩ :: _) _ _ _ _; refine Wo_do rfl rfl rfl rfl (A_lenS rfl rfl rfl Und.h rfl) ?_) | (show Wo _ _ _ (⟨_, .call ⟨.builtin .len, _, _⟩, _, _, _, _⟩ :: _) _ _ _ _; refine Wo_do rfl rfl rfl rfl (A_lenStr rfl rfl rfl Und.h rfl) ?_) | (show Wo _ _ _ (⟨_, .binOp .add _ _ _ _, _, _, _, _⟩ :: _) _ _ _ _; refine Wo_do rfl rfl rfl rfl (A_ad rfl rfl) ?_) | (show Wo _ _ _ (⟨_, .binOp .sub _ _ _ _, _, _, _, _⟩ :: _) _ _ _ _; refine Wo_do rfl rfl rfl rfl (A_sb rfl rfl) ?_)))
  refine Wo_callE rfl rfl rfl rfl rfl Bod.h rfl rfl (rescueRoom_sv (ht0.ext hE1) hf (hx0.ext hE1) hxf) fun h3 hE3 => ?_
  replace hg1 := hE3.get hg1
  replace hg2 := hE3.get hg2
  replace hE1 := hE1.trans hE3
  repeat (first | (show Wc _ _ _ _ _ _ _; first | refine Wc_seq ?_ | refine Wc_region ?_ | refine Wc_condT rfl ?_ | refine Wc_condF rfl ?_ | refine Wc_block ?_ | refine Wc_skip ?_ | refine Wc_exit ?_ | refine Wc_label ?_) | (show Wo _ _ _ [] _ _ _ _; refine Wo_nil ?_) | (show Wo _ _ _ (_ :: _) _ _ _ _; first | (show Wo _ _ _ (⟨_, _, _, _, _, some _⟩ :: _) _ _ _ _; refine Wo_off rfl rfl rfl ?_) | (show Wo _ _ _ (⟨_, _, _, _, _, some _⟩ :: _) _ _ _ _; refine Wo_off0 rfl rfl ?_) | (show Wo _ _ _ (⟨_, .move _, _, _, _, _⟩ :: _) _ _ _ _; refine Wo_do rfl rfl rfl rfl (A_move rfl) ?_) | (show Wo _ _ _ (⟨_, .assign _, _, _, _, _⟩ :: _) _ _ _ _; refine Wo_do rfl rfl rfl rfl (A_assign rfl) ?_) | (show Wo _ _ _ (⟨_, .pick _ _ _, _, _, _, _⟩ :: _) _ _ _ _; refine Wo_do rfl rfl rfl rfl (A_pickT rfl rfl) ?_) | (show Wo _ _ _ (⟨_, .pick _ _ _, _, _, _, _⟩ :: _) _ _ _ _; refine Wo_do rfl rfl rfl rfl (A_pickF rfl rfl) ?_) | (show Wo _ _ _ (⟨_, .unOp .not _ _, _, _, _, _⟩ :: _) _ _ _ _; refine Wo_do rfl rfl rfl rfl (A_not rfl) ?_) | (show Wo _ _ _ (⟨_, .makeFunc _ _ _, _, _, _, _⟩ :: _) _ _ _ _; refine Wo_do rfl rfl rfl rfl (A_mkF rfl rfl) ?_) | (show Wo _ _ _ (⟨_, .extract _ _, _, _, _, _⟩ :: _) _ _ _ _; refine Wo_do rfl rfl rfl rfl (A_extract rfl rfl) ?_) | (show Wo _ _ _ (⟨_, .fieldAddr _ _ _, _, _, _, _⟩ :: _) _ _ _ _; refine Wo_do rfl rfl rfl rfl (A_fieldAddr Fof.h rfl) ?_) | (show Wo _ _ _ (⟨_, .load _ _, _, _, _, _⟩ :: _) _ _ _ _; refine Wo_do rfl rfl rfl rfl (A_ld OneC.h rfl) ?_) | (show Wo _ _ _ (⟨_, .load _ _, _, _, _, _⟩ :: _) _ _ _ _; refine Wo_do rfl rfl rfl rfl (A_ldr RowC.h rfl) ?_) | (show Wo _ _ _ (⟨_, .call ⟨.builtin .len, _, _⟩, _, _, _, _⟩ :: _) _ _ _ _; refine Wo_do rfl rfl rfl rfl (A_lenS rfl rfl rfl Und.h rfl) ?_) | (show Wo _ _ _ (⟨_, .call ⟨.builtin .len, _, _⟩, _, _, _, _⟩ :: _) _ _ _ _; refine Wo_do rfl rfl rfl rfl (A_lenStr rfl rfl rfl Und.h rfl) ?_) | (show Wo _ _ _ (⟨_, .binOp .add _ _ _ _, _, _, _, _⟩ :: _) _ _ _ _; refine Wo_do rfl rfl rfl rfl (A_ad rfl rfl) ?_) | (show Wo _ _ _ (⟨_, .binOp .sub _ _ _ _, _, _, _, _⟩ :: _) _ _ _ _; refine Wo_do rfl rfl rfl rfl (A_sb rfl rfl) ?_)))
  refine Wo_callE rfl rfl rfl rfl rfl Bod.h rfl rfl (refRoom_sv (ht0.ext hE1) hf (hx0.ext hE1) hxf) fun h4 hE4 => ?_
  replace hE1 := hE1.trans hE4
  repeat (first | (show Wc _ _ _ _ _ _ _; first | refine Wc_seq ?_ | refine Wc_region ?_ | refine Wc_condT rfl ?_ | refine Wc_condF rfl ?_ | refine Wc_block ?_ | refine Wc_skip ?_ | refine Wc_exit ?_ | refine Wc_label ?_) | (show Wo _ _ _ [] _ _ _ _; refine Wo_nil ?_) | (show Wo _ _ _ (_ :: _) _ _ _ _; first | (show Wo _ _ _ (⟨_, _, _, _, _, some _⟩ :: _) _ _ _ _; refine Wo_off rfl rfl rfl ?_) | (show Wo _ _ _ (⟨_, _, _, _, _, some _⟩ :: _) _ _ _ _; refine Wo_off0 rfl rfl ?_) | (show Wo _ _ _ (⟨_, .move _, _, _, _, _⟩ :: _) _ _ _ _; refine Wo_do rfl rfl rfl rfl (A_move rfl) ?_) | (show Wo _ _ _ (⟨_, .assign _, _, _, _, _⟩ :: _) _ _ _ _; refine Wo_do rfl rfl rfl rfl (A_assign rfl) ?_) | (show Wo _ _ _ (⟨_, .pick _ _ _, _, _, _, _⟩ :: _) _ _ _ _; refine Wo_do rfl rfl rfl rfl (A_pickT rfl rfl) ?_) | (show Wo _ _ _ (⟨_, .pick _ _ _, _, _, _, _⟩ :: _) _ _ _ _; refine Wo_do rfl rfl rfl rfl (A_pickF rfl rfl) ?_) | (show Wo _ _ _ (⟨_, .unOp .not _ _, _, _, _, _⟩ :: _) _ _ _ _; refine Wo_do rfl rfl rfl rfl (A_not rfl) ?_) | (show Wo _ _ _ (⟨_, .makeFunc _ _ _, _, _, _, _⟩ :: _) _ _ _ _; refine Wo_do rfl rfl rfl rfl (A_mkF rfl rfl) ?_) | (show Wo _ _ _ (⟨_, .extract _ _, _, _, _, _⟩ :: _) _ _ _ _; refine Wo_do rfl rfl rfl rfl (A_extract rfl rfl) ?_) | (show Wo _ _ _ (⟨_, .fieldAddr _ _ _, _, _, _, _⟩ :: _) _ _ _ _; refine Wo_do rfl rfl rfl rfl (A_fieldAddr Fof.h rfl) ?_) | (show Wo _ _ _ (⟨_, .load _ _, _, _, _, _⟩ :: _) _ _ _ _; refine Wo_do rfl rfl rfl rfl (A_ld OneC.h rfl) ?_) | (show Wo _ _ _ (⟨_, .load _ _, _, _, _, _⟩ :: _) _ _ _ _; refine Wo_do rfl rfl rfl rfl (A_ldr RowC.h rfl) ?_) | (show Wo _ _ _ (⟨_, .call ⟨.builtin .len, _, _⟩, _, _, _, _⟩ :: _) _ _ _ _; refine Wo_do rfl rfl rfl rfl (A_lenS rfl rfl rfl Und.h rfl) ?_) | (show Wo _ _ _ (⟨_, .call ⟨.builtin .len, _, _⟩, _, _, _, _⟩ :: _) _ _ _ _; refine Wo_do rfl rfl rfl rfl (A_lenStr rfl rfl rfl Und.h rfl) ?_) | (show Wo _ _ _ (⟨_, .binOp .add _ _ _ _, _, _, _, _⟩ :: _) _ _ _ _; refine Wo_do rfl rfl rfl rfl (A_ad rfl rfl) ?_) | (show Wo _ _ _ (⟨_, .binOp .sub _ _ _ _, _, _, _, _⟩ :: _) _ _ _ _; refine Wo_do rfl rfl rfl rfl (A_sb rfl rfl) ?_)))
  refine Wo_do rfl rfl rfl rfl (A_tt rfl (A_eqlB Und.h rfl rfl)) ?_
  repeat (first | (show Wc _ _ _ _ _ _ _; first | refine Wc_seq ?_ | refine Wc_region ?_ | refine Wc_condT rfl ?_ | refine Wc_condF rfl ?_ | refine Wc_block ?_ | refine Wc_skip ?_ | refine Wc_exit ?_ | refine Wc_label ?_) | (show Wo _ _ _ [] _ _ _ _; refine Wo_nil ?_) | (show Wo _ _ _ (_ :: _) _ _ _ _; first | (show Wo _ _ _ (⟨_, _, _, _, _, some _⟩ :: _) _ _ _ _; refine Wo_off rfl rfl rfl ?_) | (show Wo _ _ _ (⟨_, _, _, _, _, some _⟩ :: _) _ _ _ _; refine Wo_off0 rfl rfl ?_) | (show Wo _ _ _ (⟨_, .move _, _, _, _, _⟩ :: _) _ _ _ _; refine Wo_do rfl rfl rfl rfl (A_move rfl) ?_) | (show Wo _ _ _ (⟨_, .assign _, _, _, _, _⟩ :: _) _ _ _ _; refine Wo_do rfl rfl rfl rfl (A_assign rfl) ?_) | (show Wo _ _ _ (⟨_, .pick _ _ _, _, _, _, _⟩ :: _) _ _ _ _; refine Wo_do rfl rfl rfl rfl (A_pickT rfl rfl) ?_) | (show Wo _ _ _ (⟨_, .pick _ _ _, _, _, _, _⟩ :: _) _ _ _ _; refine Wo_do rfl rfl rfl rfl (A_pickF rfl rfl) ?_) | (show Wo _ _ _ (⟨_, .unOp .not _ _, _, _, _, _⟩ :: _) _ _ _ _; refine Wo_do rfl rfl rfl rfl (A_not rfl) ?_) | (show Wo _ _ _ (⟨_, .makeFunc _ _ _, _, _, _, _⟩ :: _) _ _ _ _; refine Wo_do rfl rfl rfl rfl (A_mkF rfl rfl) ?_) | (show Wo _ _ _ (⟨_, .extract _ _, _, _, _, _⟩ :: _) _ _ _ _; refine Wo_do rfl rfl rfl rfl (A_extract rfl rfl) ?_) | (show Wo _ _ _ (⟨_, .fieldAddr _ _ _, _, _, _, _⟩ :: _) _ _ _ _; refine Wo_do rfl rfl rfl rfl (A_fieldAddr Fof.h rfl) ?_) | (show Wo _ _ _ (⟨_, .load _ _, _, _, _, _⟩ :: _) _ _ _ _; refine Wo_do rfl rfl rfl rfl (A_ld OneC.h rfl) ?_) | (show Wo _ _ _ (⟨_, .load _ _, _, _, _, _⟩ :: _) _ _ _ _; refine Wo_do rfl rfl rfl rfl (A_ldr RowC.h rfl) ?_) | (show Wo _ _ _ (⟨_, .call ⟨.builtin .len, _, _⟩, _, _, _, _⟩ :: _) _ _ _ _; refine Wo_do rfl rfl rfl rfl (A_lenS rfl rfl rfl Und.h rfl) ?_) | (show Wo _ _ _ (⟨_, .call ⟨.builtin .len, _, _⟩, _, _, _, _⟩ :: _) _ _ _ _; refine Wo_do rfl rfl rfl rfl (A_lenStr rfl rfl rfl Und.h rfl) ?_) | (show Wo _ _ _ (⟨_, .binOp .add _ _ _ _, _, _, _, _⟩ :: _) _ _ _ _; refine Wo_do rfl rfl rfl rfl (A_ad rfl rfl) ?_) | (show Wo _ _ _ (⟨_, .binOp .sub _ _ _ _, _, _, _, _⟩ :: _) _ _ _ _; refine Wo_do rfl rfl rfl rfl (A_sb rfl rfl) ?_)))
  refine Wo_do rfl rfl rfl rfl (A_tt rfl (A_eql rfl rfl)) ?_
  repeat (first | (show Wc _ _ _ _ _ _ _; first | refine Wc_seq ?_ | refine Wc_region ?_ | refine Wc_condT rfl ?_ | refine Wc_condF rfl ?_ | refine Wc_block ?_ | refine Wc_skip ?_ | refine Wc_exit ?_ | refine Wc_label ?_) | (show Wo _ _ _ [] _ _ _ _; refine Wo_nil ?_) | (show Wo _ _ _ (_ :: _) _ _ _ _; first | (show Wo _ _ _ (⟨_, _, _, _, _, some _⟩ :: _) _ _ _ _; refine Wo_off rfl rfl rfl ?_) | (show Wo _ _ _ (⟨_, _, _, _, _, some _⟩ :: _) _ _ _ _; refine Wo_off0 rfl rfl ?_) | (show Wo _ _ _ (⟨_, .move _, _, _, _, _⟩ :: _) _ _ _ _; refine Wo_do rfl rfl rfl rfl (A_move rfl) ?_) | (show Wo _ _ _ (⟨_, .assign _, _, _, _, _⟩ :: _) _ _ _ _; refine Wo_do rfl rfl rfl rfl (A_assign rfl) ?_) | (show Wo _ _ _ (⟨_, .pick _ _ _, _, _, _, _⟩ :: _) _ _ _ _; refine Wo_do rfl rfl rfl rfl (A_pickT rfl rfl) ?_) | (show Wo _ _ _ (⟨_, .pick _ _ _, _, _, _, _⟩ :: _) _ _ _ _; refine Wo_do rfl rfl rfl rfl (A_pickF rfl rfl) ?_) | (show Wo _ _ _ (⟨_, .unOp .not _ _, _, _, _, _⟩ :: _) _ _ _ _; refine Wo_do rfl rfl rfl rfl (A_not rfl) ?_) | (show Wo _ _ _ (⟨_, .makeFunc _ _ _, _, _, _, _⟩ :: _) _ _ _ _; refine Wo_do rfl rfl rfl rfl (A_mkF rfl rfl) ?_) | (show Wo _ _ _ (⟨_, .extract _ _, _, _, _, _⟩ :: _) _ _ _ _; refine Wo_do rfl rfl rfl rfl (A_extract rfl rfl) ?_) | (show Wo _ _ _ (⟨_, .fieldAddr _ _ _, _, _, _, _⟩ :: _) _ _ _ _; refine Wo_do rfl rfl rfl rfl (A_fieldAddr Fof.h rfl) ?_) | (show Wo _ _ _ (⟨_, .load _ _, _, _, _, _⟩ :: _) _ _ _ _; refine Wo_do rfl rfl rfl rfl (A_ld OneC.h rfl) ?_) | (show Wo _ _ _ (⟨_, .load _ _, _, _, _, _⟩ :: _) _ _ _ _; refine Wo_do rfl rfl rfl rfl (A_ldr RowC.h rfl) ?_) | (show Wo _ _ _ (⟨_, .call ⟨.builtin .len, _, _⟩, _, _, _, _⟩ :: _) _ _ _ _; refine Wo_do rfl rfl rfl rfl (A_lenS rfl rfl rfl Und.h rfl) ?_) | (show Wo _ _ _ (⟨_, .call ⟨.builtin .len, _, _⟩, _, _, _, _⟩ :: _) _ _ _ _; refine Wo_do rfl rfl rfl rfl (A_lenStr rfl rfl rfl Und.h rfl) ?_) | (show Wo _ _ _ (⟨_, .binOp .add _ _ _ _, _, _, _, _⟩ :: _) _ _ _ _; refine Wo_do rfl rfl rfl rfl (A_ad rfl rfl) ?_) | (show Wo _ _ _ (⟨_, .binOp .sub _ _ _ _, _, _, _, _⟩ :: _) _ _ _ _; refine Wo_do rfl rfl rfl rfl (A_sb rfl rfl) ?_)))
  refine Wo_callV rfl rfl rfl rfl rfl Bod.h rfl rfl (awake_sv _) ?_
  repeat (first | (show Wc _ _ _ _ _ _ _; first | refine Wc_seq ?_ | refine Wc_region ?_ | refine Wc_condT rfl ?_ | refine Wc_condF rfl ?_ | refine Wc_block ?_ | refine Wc_skip ?_ | refine Wc_exit ?_ | refine Wc_label ?_) | (show Wo _ _ _ [] _ _ _ _; refine Wo_nil ?_) | (show Wo _ _ _ (_ :: _) _ _ _ _; first | (show Wo _ _ _ (⟨_, _, _, _, _, some _⟩ :: _) _ _ _ _; refine Wo_off rfl rfl rfl ?_) | (show Wo _ _ _ (⟨_, _, _, _, _, some _⟩ :: _) _ _ _ _; refine Wo_off0 rfl rfl ?_) | (show Wo _ _ _ (⟨_, .move _, _, _, _, _⟩ :: _) _ _ _ _; refine Wo_do rfl rfl rfl rfl (A_move rfl) ?_) | (show Wo _ _ _ (⟨_, .assign _, _, _, _, _⟩ :: _) _ _ _ _; refine Wo_do rfl rfl rfl rfl (A_assign rfl) ?_) | (show Wo _ _ _ (⟨_, .pick _ _ _, _, _, _, _⟩ :: _) _ _ _ _; refine Wo_do rfl rfl rfl rfl (A_pickT rfl rfl) ?_) | (show Wo _ _ _ (⟨_, .pick _ _ _, _, _, _, _⟩ :: _) _ _ _ _; refine Wo_do rfl rfl rfl rfl (A_pickF rfl rfl) ?_) | (show Wo _ _ _ (⟨_, .unOp .not _ _, _, _, _, _⟩ :: _) _ _ _ _; refine Wo_do rfl rfl rfl rfl (A_not rfl) ?_) | (show Wo _ _ _ (⟨_, .makeFunc _ _ _, _, _, _, _⟩ :: _) _ _ _ _; refine Wo_do rfl rfl rfl rfl (A_mkF rfl rfl) ?_) | (show Wo _ _ _ (⟨_, .extract _ _, _, _, _, _⟩ :: _) _ _ _ _; refine Wo_do rfl rfl rfl rfl (A_extract rfl rfl) ?_) | (show Wo _ _ _ (⟨_, .fieldAddr _ _ _, _, _, _, _⟩ :: _) _ _ _ _; refine Wo_do rfl rfl rfl rfl (A_fieldAddr Fof.h rfl) ?_) | (show Wo _ _ _ (⟨_, .load _ _, _, _, _, _⟩ :: _) _ _ _ _; refine Wo_do rfl rfl rfl rfl (A_ld OneC.h rfl) ?_) | (show Wo _ _ _ (⟨_, .load _ _, _, _, _, _⟩ :: _) _ _ _ _; refine Wo_do rfl rfl rfl rfl (A_ldr RowC.h rfl) ?_) | (show Wo _ _ _ (⟨_, .call ⟨.builtin .len, _, _⟩, _, _, _, _⟩ :: _) _ _ _ _; refine Wo_do rfl rfl rfl rfl (A_lenS rfl rfl rfl Und.h rfl) ?_) | (show Wo _ _ _ (⟨_, .call ⟨.builtin .len, _, _⟩, _, _, _, _⟩ :: _) _ _ _ _; refine Wo_do rfl rfl rfl rfl (A_lenStr rfl rfl rfl Und.h rfl) ?_) | (show Wo _ _ _ (⟨_, .binOp .add _ _ _ _, _, _, _, _⟩ :: _) _ _ _ _; refine Wo_do rfl rfl rfl rfl (A_ad rfl rfl) ?_) | (show Wo _ _ _ (⟨_, .binOp .sub _ _ _ _, _, _, _, _⟩ :: _) _ _ _ _; refine Wo_do rfl rfl rfl rfl (A_sb rfl rfl) ?_)))
  exact Wc_ret (Lv_ret rfl ⟨rfl, hE1⟩)
end Go.Dw
/- Z9: reading a workshop with what its slice of reels is. -/
namespace Go.Dw
open Go Go.Dx Go.Proofs
set_option maxRecDepth 100000
section
variable {H : Type} {enc : TypeId × Value -> H} {W : World} {cs : List Value}
theorem rd_nilC {P : Program} {t e : TypeId} (ht : P.underlying t = some (.slice e)) (h : Rd enc P W t cs) : ∃ v a len cap, cs = [v] /\ nz v = .slice a len cap /\ (a = none -> cap = 0) := by
  obtain ⟨m, x, hx⟩ := h
  rcases DataW.trod_slice ht hx with ⟨h1, _⟩ | ⟨a, len, cap, elems, rest, n, _, h1, _, _, hlc, hcm, hel, he, hr, _⟩
  · exact ⟨_, none, 0, 0, h1, rfl, fun _ => rfl⟩
  · by_cases hne : len = 0 /\ cap = 0
    · obtain ⟨rfl, rfl⟩ := hne
      exact ⟨_, some ⟨0, 0, some 0⟩, 0, 0, h1, rfl, fun e => nomatch e⟩
    · refine ⟨_, some a, len, cap, h1, ?_, fun e => nomatch e⟩
      unfold nz
      split
      · rename_i hq; simp only [Value.slice.injEq] at hq; exact absurd ⟨hq.2.1, hq.2.2⟩ hne
      · rfl
theorem rd_taskP (h : Rd enc Tryz.prog W 25 cs) : ∃ t : Task, cs.all (okv W.heap.size) = true /\ TaskP (ro W) (cs.map nz) t /\ t.Fit := by
  obtain ⟨t, hok, hT, hF⟩ := rd_task h
  refine ⟨t, hok, ?_, hF⟩
  obtain ⟨c3, c9, c22, c23, c25, c31, c63, c72⟩ := cells_ty
  obtain ⟨h1, h2⟩ := rd_struct Tryz.underlying25 h
  rw [c25] at h1
  obtain ⟨x0, x1, x2, x3, rfl⟩ : ∃ x0 x1 x2 x3, cs = [x0, x1, x2, x3] := by
    match cs, h1 with
    | [x0, x1, x2, x3], _ => exact ⟨x0, x1, x2, x3, rfl⟩
  have f3 : Rd enc Tryz.prog W 23 (([x0, x1, x2, x3].drop 3).take (Tryz.prog.cellsOf 23)) := h2 3 _ rfl
  rw [c23] at f3
  obtain ⟨am, cm, ar, cr, e, hM, hR⟩ := hT
  have e3 : nz x3 = .slice ar t.reels.length cr := by
    simp only [List.map_cons, List.map_nil, List.cons.injEq, and_true] at e
    exact e.2.2.2
  obtain ⟨v1, a1, n1, k1, g1, g2, g3⟩ := rd_sliceC Tryz.underlying23 f3
  obtain ⟨v2, a2, n2, k2, q1, q2, q3⟩ := rd_slice0 Tryz.underlying23 (by omega) f3
  obtain ⟨v3, a3, n3, k3, r1, _, r3, _, r5⟩ := rd_slice Tryz.underlying23 (by omega) f3
  simp at g1 q1 r1
  subst g1; subst q1; subst r1
  rw [e3] at g2 q2 r3
  simp only [Value.slice.injEq] at g2 q2 r3
  obtain ⟨rfl, rfl, rfl⟩ := g2
  obtain ⟨rfl, rfl, rfl⟩ := q2
  obtain ⟨rfl, rfl, rfl⟩ := r3
  refine ⟨am, cm, ar, cr, e, hM, hR, g3, fun b o oa ha hn => ?_, fun hn => ?_, fun ha => ?_⟩
  · obtain ⟨b', o', e', _⟩ := r5 0 (List.length_pos_iff.2 hn)
    rw [ha] at e'
    cases e'; rfl
  · rcases q3 (by rw [hn]; rfl) with g | ⟨b, o, g⟩ | ⟨b, o, c, t', fz, g, hb, hc⟩
    · exact .inl g
    · exact .inr (.inl ⟨b, o, g⟩)
    · refine .inr (.inr ⟨b, o, none, g, ?_⟩)
      have := ro_row (W := W) (o := o) (n := 0) (row := []) hb (by
        unfold cut
        have : Nat.ble (Nat.add o 0) c.toList.length = true := Nat.ble_eq_true_of_le (by show o + 0 <= c.toList.length; rw [Array.length_toList]; omega)
        rw [this]; simp) rfl
      simpa using this
  · obtain ⟨v4, a4, n4, k4, s1, s2, s3⟩ := rd_nilC Tryz.underlying23 f3
    simp at s1
    subst s1
    rw [e3] at s2
    simp only [Value.slice.injEq] at s2
    obtain ⟨rfl, rfl, rfl⟩ := s2
    exact s3 ha
end
end Go.Dw
