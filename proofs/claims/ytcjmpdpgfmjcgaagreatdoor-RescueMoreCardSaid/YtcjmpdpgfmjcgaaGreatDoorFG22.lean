/- Z2: rows of cells as the source of an append; parts of rows; rows of the function's own. -/
import Derived.Test.YtcjmpdpgfmjcgaaGreatDoorFG16
import Derived.Test.YtcjmpdpgfmjcgaaGreatDoorFG3
import Derived.Test.YtcjmpdpgfmjcgaaGreatDoorFG21
import Derived.Test.YtcjmpdpgfmjcgaaGreatDoorFG20
namespace Go.Dw
open Go Go.Dx Go.Proofs
variable {P : Program}
def RawAt (k : Nat) (h : Heap) (a : Option Addr) (rs : List (List Value)) : Prop := RowsAt k (fun _ row x => row = x) h a rs
theorem RawAt.at {k : Nat} {h : Heap} {a : Option Addr} {rs : List (List Value)} (hl : RawAt k h a rs) {i : Nat} (hi : i < rs.length) : ∃ b o oa, a = some ⟨b, o, oa⟩ /\ rowAt h b (o + i * k) k = some rs[i] := by
  obtain ⟨b, o, oa, e, row, h1, rfl⟩ := hl i hi
  exact ⟨b, o, oa, e, h1⟩
theorem RawAt.ext {k : Nat} {h h' : Heap} {a : Option Addr} {rs : List (List Value)} (hl : RawAt k h a rs) (he : Ext h h') : RawAt k h' a rs := RowsAt.ext (R := fun _ row x => row = x) (fun x _ => x) hl he
theorem cut_len {vs l : List Value} {o n : Nat} (h : cut vs o n = some l) : l.length = n := by
  obtain ⟨h1, h2⟩ := cut_eq h
  rw [h2, List.length_take, List.length_drop]; omega
theorem rowAt_len {h : Heap} {b o n : Nat} {l : List Value} (hr : rowAt h b o n = some l) : l.length = n := by
  unfold rowAt at hr
  split at hr
  · exact cut_len hr
  · rename_i lim ob _
    unfold rdo at hr
    split at hr
    · split at hr
      · rename_i l' hc
        have hl := cut_len hc
        cases hb : l'.all (okv lim)
        · rw [hb] at hr; cases hr
        · rw [hb] at hr; cases hr
          rw [List.length_map]; exact hl
      · cases hr
    · cases hr
  · cases hr
theorem RawAt.len {k : Nat} {h : Heap} {a : Option Addr} {rs : List (List Value)} (hl : RawAt k h a rs) : ∀ r ∈ rs, r.length = k := fun r hr => by
  obtain ⟨i, hi, rfl⟩ := List.getElem_of_mem hr
  obtain ⟨b, o, oa, e, h1⟩ := hl.at hi
  exact rowAt_len h1
theorem RawAt.rows {α : Type} {k : Nat} {R : Heap -> List Value -> α -> Prop} {h : Heap} {a : Option Addr} {rs : List (List Value)} {l : List α} (hr : RawAt k h a rs) (hl : rs.length = l.length) (hR : ∀ i (h1 : i < rs.length) (h2 : i < l.length), R h rs[i] l[i]) : RowsAt k R h a l := fun i hi => by
  obtain ⟨b, o, oa, e, h1⟩ := hr.at (i := i) (by omega)
  exact ⟨b, o, oa, e, _, h1, hR i (by omega) hi⟩
theorem RawAt.take {k : Nat} {h : Heap} {a : Option Addr} {rs : List (List Value)} (hl : RawAt k h a rs) (n : Nat) : RawAt k h a (rs.take n) := fun i hi => by
  rw [List.length_take] at hi
  obtain ⟨b, o, oa, e, h1⟩ := hl.at (i := i) (by omega)
  exact ⟨b, o, oa, e, _, h1, by rw [List.getElem_take]⟩
theorem RawAt.drop {k b o : Nat} {oa oa' : Option Nat} {h : Heap} {rs : List (List Value)} (hl : RawAt k h (some ⟨b, o, oa⟩) rs) (n : Nat) : RawAt k h (some ⟨b, o + n * k, oa'⟩) (rs.drop n) := fun i hi => by
  rw [List.length_drop] at hi
  obtain ⟨b', o', oa2, e, h1⟩ := hl.at (i := n + i) (by omega)
  cases e
  refine ⟨b, o + n * k, oa', rfl, _, ?_, by rw [List.getElem_drop]⟩
  rw [show o + n * k + i * k = o + (n + i) * k by rw [Nat.add_mul]; omega]
  exact h1
abbrev catR (rs : List (List Value)) : List Value := rs.flatMap id
theorem catR_len {k : Nat} : ∀ {rs : List (List Value)}, (∀ r ∈ rs, r.length = k) -> (catR rs).length = rs.length * k
  | [], _ => by simp
  | r :: rs, h => by
    have ih := catR_len (rs := rs) fun x hx => h x (List.mem_cons_of_mem _ hx)
    have h1 := h r List.mem_cons_self
    unfold catR at ih ⊢
    rw [List.flatMap_cons, List.length_append, ih, List.length_cons, Nat.add_mul, Nat.one_mul]
    show r.length + _ = _
    omega
theorem RawAt.row {k b o : Nat} {oa : Option Nat} {h : Heap} {rs : List (List Value)} (hl : RawAt k h (some ⟨b, o, oa⟩) rs) (hk : 0 < k) (h0 : 0 < rs.length) : rowAt h b o (rs.length * k) = some (catR rs) := by
  have hn := hl.len
  have hc := catR_len hn
  rw [<- hc]
  refine row_of_cells (by rw [hc]; exact Nat.mul_pos h0 hk) fun q hq => ?_
  rw [hc] at hq
  have h1 : q / k < rs.length := (Nat.div_lt_iff_lt_mul hk).2 hq
  have h2 : q % k < k := Nat.mod_lt _ hk
  have h3 : q = q / k * k + q % k := by rw [Nat.mul_comm]; exact (Nat.div_add_mod q k).symm
  obtain ⟨b', o', oa', e, hr⟩ := hl.at h1
  cases e
  have h4 : (rs[q / k])[q % k]? = (catR rs)[q]? := by
    obtain ⟨_, h6⟩ := cut_eq (cut_flat (f := id) (k := k) h1 hn)
    have h6 : rs[q / k] = ((catR rs).drop (q / k * k)).take k := h6
    rw [h6, List.getElem?_take, if_pos h2, List.getElem?_drop, <- h3]
  have h5 : (catR rs)[q]? = some (catR rs)[q] := List.getElem?_eq_getElem _
  have := cell_of_row (k := q % k) hr (by rw [nth_eq, h4, h5])
  rw [show o + q / k * k + q % k = o + q by omega] at this
  exact this
def SrcZ (h : Heap) (a : Option Addr) : Prop := a = none \/ (∃ b o, a = some ⟨b, o, some 0⟩) \/ ∃ b o oa, a = some ⟨b, o, oa⟩ /\ rowAt h b o 0 = some []
theorem SrcZ.ext {h h' : Heap} {a : Option Addr} (hz : SrcZ h a) (he : Ext h h') : SrcZ h' a := hz.imp id fun hx => hx.imp id fun ⟨b, o, oa, h1, h2⟩ => ⟨b, o, oa, h1, he.row h2⟩
theorem RawAt.src {k : Nat} {h : Heap} {a : Option Addr} {rs : List (List Value)} {cap : Nat} {el tX : TypeId} {dd : TypeDesc} (hl : RawAt k h a rs) (hk : 0 < k) (hz : rs = [] -> SrcZ h a) (hX : P.underlying tX = some dd) (hni : ∀ k, dd ≠ .int k) : asrc P el k tX (.slice a rs.length cap) h = some (rs.length, catR rs) := by
  cases rs with
  | nil =>
    rcases hz rfl with rfl | ⟨b, o, rfl⟩ | ⟨b, o, oa, rfl, h2⟩
    · unfold asrc
      rw [hX]
      cases dd <;> first | rfl | exact absurd rfl (hni _)
    · unfold asrc
      rw [hX]
      cases dd <;> first | rfl | exact absurd rfl (hni _)
    · exact asrc_row hX hni (by rw [List.length_nil, Nat.zero_mul]; exact h2)
  | cons r rs =>
    obtain ⟨b, o, oa, rfl, _⟩ := hl.at (i := 0) (by simp)
    exact asrc_row hX hni (hl.row hk (by simp))
structure ReelsP (h : Heap) (ar : Option Addr) (l : List Reel) (cr : Nat) : Prop where
  le : l.length <= cr
  plain : ∀ b o oa, ar = some ⟨b, o, oa⟩ -> l ≠ [] -> oa = none
  z : l = [] -> SrcZ h ar
  nil : ar = none -> cr = 0
theorem ReelsP.ext {h h' : Heap} {ar : Option Addr} {l : List Reel} {cr : Nat} (a : ReelsP h ar l cr) (he : Ext h h') : ReelsP h' ar l cr := ⟨a.le, a.plain, fun e => (a.z e).ext he, a.nil⟩
def TaskP (h : Heap) (tc : List Value) (t : Task) : Prop := ∃ am cm ar cr, tc = [i64 t.first, i64 t.days, .slice am t.machines.length cm, .slice ar t.reels.length cr] /\ RowsAt 2 MachAt h am t.machines /\ RowsAt 5 ReelAt h ar t.reels /\ ReelsP h ar t.reels cr
theorem TaskP.at {h : Heap} {tc : List Value} {t : Task} (a : TaskP h tc t) : TaskAt h tc t := by
  obtain ⟨am, cm, ar, cr, e, h1, h2, _⟩ := a
  exact ⟨am, cm, ar, cr, e, h1, h2⟩
theorem TaskP.ext {h h' : Heap} {tc : List Value} {t : Task} (a : TaskP h tc t) (he : Ext h h') : TaskP h' tc t := by
  obtain ⟨am, cm, ar, cr, e, h1, h2, h3⟩ := a
  exact ⟨am, cm, ar, cr, e, RowsAt.ext (R := MachAt) (fun x y => MachAt.ext x y) h1 he, RowsAt.ext (R := ReelAt) (fun x y => ReelAt.ext x y) h2 he, h3.ext he⟩
section
variable {m : Mem} {h : Heap} {d : Option Tmp} {ty : TypeId} {pos : String} {af : Array Edge} {gu : Option (Nat × Bool)}
end
end Go.Dw
/- Z4: RescueMore: its contract, for any workshop, and how much more. -/
namespace Go.Dw
open Go Go.Dx Go.Proofs Go.Mt
set_option maxRecDepth 100000
def u8 (n : Int) : Value := .int .u8 n
def rRow (p : Reel × Value) : List Value := [str p.1.name, p.2, i64 p.1.ready, i64 p.1.due, i64 p.1.risk]
def RowR (h : Heap) (p : Reel × Value) : Prop := ∃ a cap, p.2 = .slice a p.1.machines.length cap /\ IntsAt h a p.1.machines
theorem RowR.ext {h h' : Heap} {p : Reel × Value} (hp : RowR h p) (he : Ext h h') : RowR h' p := by
  obtain ⟨a, c, h1, h2⟩ := hp
  exact ⟨a, c, h1, ListAt.ext h2 he⟩
theorem reels_of {h0 h : Heap} {v : Value} {Y : List (Reel × Value)} (hF : FreshSl h0 h v 63 5 (Y.flatMap rRow) Y.length) (hY : ∀ p ∈ Y, RowR h p) : ∃ a, v = .slice a Y.length Y.length /\ RowsAt 5 ReelAt h a (Y.map Prod.fst) := by
  rcases hF with ⟨rfl, _, hn⟩ | ⟨b, sp, op, rfl, hg, _⟩
  · refine ⟨none, by rw [hn], fun i hi => ?_⟩
    rw [List.length_map, hn] at hi; omega
  · refine ⟨_, rfl, fun i hi => ⟨b, 0, sp, rfl, _, rowAt_cells hg (by rw [Nat.zero_add]; exact cut_flat (by simpa using hi) fun _ _ => rfl), ?_⟩⟩
    have hi' : i < Y.length := by simpa using hi
    obtain ⟨a, c, e, hI⟩ := hY _ (List.getElem_mem hi')
    rw [List.getElem_map]
    exact ⟨a, c, by unfold rRow; rw [e], hI⟩
def uOf2 (t : Task) (X : List (Mach × Value)) (Y : List (Reel × Value)) : Task := ⟨t.first, t.days, X.map Prod.fst, Y.map Prod.fst⟩
theorem task_of2 {t : Task} {h h1 : Heap} {v5 v6 : Value} {X : List (Mach × Value)} {Y : List (Reel × Value)} (hF : FreshSl h h1 v5 72 2 (X.flatMap mRow) X.length) (hL : ∀ p ∈ X, (lfI h p).p h1) (hG : FreshSl h h1 v6 63 5 (Y.flatMap rRow) Y.length) (hY : ∀ p ∈ Y, RowR h1 p) : TaskAt h1 [i64 t.first, i64 t.days, v5, v6] (uOf2 t X Y) := by
  obtain ⟨a, rfl, hM⟩ := mats_of hF hL
  obtain ⟨a', rfl, hR⟩ := reels_of hG hY
  refine ⟨a, X.length, a', Y.length, ?_, hM, hR⟩
  show _ = [_, _, Value.slice a (X.map Prod.fst).length X.length, Value.slice a' (Y.map Prod.fst).length Y.length]
  rw [List.length_map, List.length_map]; rfl
theorem fit_valid {u : Task} (hU : Valid u) (hN : ∀ m ∈ u.machines, Len m.name) (hR : ∀ r ∈ u.reels, Len r.name /\ Len r.machines /\ ∀ n ∈ r.machines, I64 n) : u.Fit := by
  have f0 := hU.f0; have f1 := hU.f1; have d0 := hU.d0; have d1 := hU.d1; have m1 := hU.m1; have r1 := hU.r1; have la := hU.last
  refine ⟨⟨by omega, by omega⟩, ⟨by omega, by omega⟩, by show _ < _; omega, by show _ < _; omega, fun m hm => ?_, fun r hr => ?_⟩
  · have h3 := hU.ms m hm
    exact ⟨hN m hm, by show _ < _; omega, fun n hn => by have := h3.2 n hn; constructor <;> omega⟩
  · obtain ⟨a1, a2, a3, a4, a5⟩ := hU.rs r hr
    obtain ⟨n1, n2, n3⟩ := hR r hr
    exact ⟨n1, n2, n3, ⟨by omega, by omega⟩, ⟨by omega, by omega⟩, ⟨by omega, by omega⟩⟩
theorem more_small (b : Int) (k : Int) (hk : k = 3 \/ k = 4) (h0 : 0 <= b) (h1 : b <= 255) : 0 <= (IntKind.i64.wrap b).tmod k /\ (IntKind.i64.wrap b).tmod k <= 3 := by
  rw [IntWalk.i64_in _ (by omega)]
  rcases hk with rfl | rfl
  · have a1 := Int.tmod_nonneg 3 h0
    have a2 := Int.tmod_lt_of_pos b (show (0 : Int) < 3 by decide)
    omega
  · have a1 := Int.tmod_nonneg 4 h0
    have a2 := Int.tmod_lt_of_pos b (show (0 : Int) < 4 by decide)
    omega
set_option maxHeartbeats 8000000 in
theorem rescueMore_sv {tc : List Value} {t : Task} {ax : Option Addr} {cx : Nat} {ps : List Int} {early later : Int} {h : Heap} (ht : TaskAt h tc t) (hf : t.Fit) (hx : ListAt u8 h ax ps) (hps : ∀ b ∈ ps, 0 <= b /\ b <= 255) (hplen : Len ps) (hey : 0 <= early /\ early <= 255) (hly : 0 <= later /\ later <= 255) :
    Sv Tryz.prog 12 [.agg ⟨tc⟩, .agg ⟨[.slice ax ps.length cx, u8 early, u8 later]⟩] h (RetP fun v h' => v = .bool true /\ Ext h h') := by
  have ht0 := ht
  obtain ⟨am, cm, ar, cr, rfl, hM, hR⟩ := ht
  obtain ⟨hl1, hl2, hl3⟩ := plan_lens t
  refine Sv_wf fun hw => ?_
  refine Sv_enter Tryz.func12 rfl (by rw [Tryz.ntmps12]; rfl) ?_; show Wc Tryz.prog ⟨12, 197, none⟩ _ _ _ _ _
  refine zz ?_
  refine Wo_box rfl rfl rfl fun h1 hE1 hW1 hg1 hn1 => ?_
  refine Wo_box rfl rfl rfl fun h2 hE2 hW2 hg2 hn2 => ?_
  replace hg1 := hE2.get hg1
  replace hE1 := hE1.trans hE2
  clear hE2 hW1 hW2 hn1 hn2
  generalize h.nx = b2 at *
  generalize h1.nx = b3 at *
  clear h1
  refine zz ?_
  refine Wo_callr rfl rfl rfl rfl rfl Bod.h rfl rfl (rescuePlan_sv (ht0.ext hE1) hf) ?_
  rintro _ h3 ⟨⟨a, al, rfl, hT, hL⟩, hE3⟩
  replace hg1 := hE3.get hg1
  replace hg2 := hE3.get hg2
  replace hE1 := hE1.trans hE3
  clear hE3 hL
  clear h2
  refine zz ?_
  refine Wo_callE rfl rfl rfl rfl rfl Bod.h rfl rfl (refCheck_sv (ht0.ext hE1) hf) fun h4 hE4 => ?_
  replace hg1 := hE4.get hg1
  replace hg2 := hE4.get hg2
  replace hE1 := hE1.trans hE4
  replace hT := hT.ext hE4
  unfold tup3
  clear hE4
  clear h3
  refine zz ?_
  by_cases c0 : errS t = 0
  rotate_left
  · rw [planS_bad c0]
    refine Wo_do rfl rfl rfl rfl (A_tt c0 (A_neq rfl rfl)) ?_
    refine zz ?_
    refine Wo_do rfl rfl rfl rfl (A_tt rfl (A_eql rfl rfl)) ?_
    refine zz ?_
    refine Wo_callV rfl rfl rfl rfl rfl Bod.h rfl rfl (awake_sv _) ?_
    refine zz ?_
    exact Wc_ret (Lv_ret rfl ⟨rfl, hE1⟩)
  have hV := valid_of c0
  have hNE := errS_iff.1 c0
  have hc3 : (checkS t).2.2 = 0 := c0
  have hr1 := hV.r1
  have hm1 := hV.m1
  have hd1 := hV.d1
  have hd0 := hV.d0
  have hf0 := hV.f0
  have hf1 := hV.f1
  have hla := hV.last
  rw [planS_ok c0] at hT hl1 ⊢
  replace hl1 : (turnsG t (keptS t)).length <= 24 := hl1
  replace hT : TurnsAt h4 a (turnsG t (keptS t)) := hT
  refine Wo_do rfl rfl rfl rfl (A_ff (fun x => x rfl) (A_neq rfl rfl)) ?_
  refine zz ?_
  refine Wo_do rfl rfl rfl rfl (A_ff (fun x => x hc3) (A_neq rfl rfl)) ?_
  refine Wo_wf fun hwB => ?_
  have htB := ht0.ext hE1
  have hMB := RowsAt.ext (R := MachAt) (fun x y => MachAt.ext x y) hM hE1
  have hRB := RowsAt.ext (R := ReelAt) (fun x y => ReelAt.ext x y) hR hE1
  have hxB := ListAt.ext hx hE1
  clear hx hM hR ht0 hw
  refine zz ?_
  refine Wo_allocStore rfl rfl Zr.h Tsz.h rfl (fun _ => rfl) rfl rfl rfl fun h5 hE5 hW5 hg5 hn5 => ?_
  have hO5 := (Own.nil h4 h4).newCe hwB (Nat.le_refl _) hE5 hg5 (Nat.le_refl _)
  generalize h4.nx = bu at *
  refine zz ?_
  refine Wo_storeO hwB hE5 rfl Tsz.h rfl rfl hO5 rfl rfl rfl fun h6 hW6 hO6 hE6 => ?_
  refine zz ?_
  refine Wo_storeO hwB hE6 rfl Tsz.h rfl rfl hO6 rfl rfl rfl fun h7 hW7 hO7 hE7 => ?_
  clear hE5 hW5 hg5 hn5 hO5 hE6 hW6 hO6
  clear h6 h5
  refine zz ?_
  refine Wc_loop (fun (s : Nat × Nat) m ds h' => ds = [] /\ s.1 <= t.machines.length /\ s.2 <= s.1 * 60 /\ Ext h4 h' /\ ∃ (v5 : Value) (X : List (Mach × Value)), X.length = s.1 /\ (∀ j (h1 : j < X.length) (h2 : j < t.machines.length), MoreM t.machines[j] X[j].1) ∧
      Own h4 h' (slI h4 v5 72 2 (X.flatMap mRow) X.length :: ceI bu [i64 t.first, i64 t.days, v5, .slice none 0 0] 25 false :: X.map (lfI h4)) ∧
      AllK m [(2, ptr b2), (3, ptr b3), (5, .slice a (turnsG t (keptS t)).length (turnsG t (keptS t)).length), (11, ptr bu), (12, i64 s.2), (13, i64 s.1)]) (fun s => t.machines.length - s.1) (0, 0) ?_ ?_
  · exact ⟨rfl, Nat.zero_le _, Nat.zero_le _, hE7, _, [], rfl, (fun j h1 => absurd h1 (Nat.not_lt_zero _)), hO7.nilSl 72 2, rfl, rfl, rfl, rfl, rfl, rfl, trivial⟩
  clear hO7 hE7 hW7
  clear h7
  rintro ⟨i, n⟩ m ds h5 ⟨rfl, hi, hn, hE5, v5, X, hXl, hXm, hO, hall⟩
  simp only at hi hn hXl hall
  refine Wc_wf fun hw5 => ?_
  refine Wc.le ?_ (Le.kn hall)
  have hgt := hE5.get hg1
  refine zz ?_
  refine Wo_dec rfl rfl rfl rfl (A_lss rfl rfl) (fun hip => ?_) (fun hip => ?_)
  · have hi' : i < t.machines.length := by omega
    obtain ⟨bm, om, oam, ap, cp, rfl, hcn0, hcp0, hI⟩ := machCells hMB hi'
    have hcn := hE5.cell hcn0
    obtain ⟨hpl, hpv⟩ := hV.ms _ (List.getElem_mem hi')
    refine zz ?_
    refine Wo_do rfl rfl rfl rfl (A_ix Und.h Tsz.h rfl rfl) ?_
    refine zz ?_
    refine Wo_do rfl rfl rfl rfl (A_build rfl rfl) ?_
    refine Wo_allocStore rfl rfl Zr.h Tsz.h rfl (fun _ => rfl) rfl rfl rfl fun h6 hE6 hW6 hg6 hn6 => ?_
    have hO6 := hO.newCe hw5 hE5.2.1 hE6 hg6 (Nat.le_refl _)
    have hE46 := hE5.trans hE6
    generalize h5.nx = bo at *
    clear hE6 hg6 hn6 hO hgt hcn hw5 hE5
    clear h5
    refine zz ?_
    refine Wc_loop (fun (s : Nat × Nat) m ds h' => ds = [] /\ s.1 <= t.machines[i].places.length /\ s.2 <= i * 60 + s.1 /\ Ext h4 h' /\ ∃ (vP : Value) (Q : List Int), Q.length = s.1 /\ (∀ d (h1 : d < Q.length) (h2 : d < t.machines[i].places.length), t.machines[i].places[d] <= Q[d] /\ 0 <= Q[d] /\ Q[d] <= 20) ∧
        Own h4 h' (slI h4 vP 3 1 (Q.map i64) Q.length :: ceI bo [str t.machines[i].name, vP] 72 false :: slI h4 v5 72 2 (X.flatMap mRow) X.length :: ceI bu [i64 t.first, i64 t.days, v5, .slice none 0 0] 25 false :: X.map (lfI h4)) ∧
        AllK m [(2, ptr b2), (3, ptr b3), (5, .slice a (turnsG t (keptS t)).length (turnsG t (keptS t)).length), (11, ptr bu), (12, i64 s.2), (13, i64 i), (14, ptr bo), (15, i64 s.1)]) (fun s => t.machines[i].places.length - s.1) (0, n) ?_ ?_
    · exact ⟨rfl, Nat.zero_le _, by omega, hE46, _, [], rfl, (fun j h1 => absurd h1 (Nat.not_lt_zero _)), hO6.nilSl 3 1, rfl, rfl, rfl, rfl, rfl, rfl, rfl, rfl, trivial⟩
    clear hO6 hE46 hall hW6
    clear h6 m
    rintro ⟨k, n2⟩ m ds h6 ⟨rfl, hk, hn2, hE6, vP, Q, hQl, hQm, hO, hall⟩
    simp only at hk hn2 hQl hall
    refine Wc_wf fun hw6 => ?_
    refine Wc.le ?_ (Le.kn hall)
    have hgt := hE6.get hg1
    have hgx := hE6.get hg2
    have hcp := hE6.cell hcp0
    have hcn := hE6.cell hcn0
    refine zz ?_
    refine Wo_do rfl rfl rfl rfl (A_ix Und.h Tsz.h rfl rfl) ?_
    refine zz ?_
    refine Wo_dec rfl rfl rfl rfl (A_lss rfl rfl) (fun hkp => ?_) (fun hkp => ?_)
    rotate_left
    · have hkk : k = t.machines[i].places.length := by omega
      subst hkk
      have hgu : h6.get bu = _ := hO.p4
      have hgo : h6.get bo = _ := hO.p2
      obtain ⟨aP, rfl, _, _⟩ := (show FreshSl h4 h6 vP 3 1 _ _ from hO.p1).is
      refine zz ?_
      refine Wo_bs rfl rfl Und.h Tsz.h Zr.h rfl rfl rfl rfl rfl fun h7 hE7 hW7 hg7 hx7 => ?_
      refine zz ?_
      refine Wo_appendO (by' := 40) (sz := 2) (k := 1) (n := X.length) (l := [str t.machines[i].name, .slice aP Q.length Q.length]) hwB (hE6.trans hE7) rfl rfl rfl rfl rfl Und.h inferInstance rfl rfl (hO.ext hE7).up3 ((FreshSl.lit (h0 := h4) (n := 1) (sz := 2) hg7 rfl hE6.2.1).src (dd := .slice 72) Und.h (by intro k; simp)) rfl rfl (by omega) (by omega) fun v8 h8 hW8 hO8 hE8 => ?_
      obtain ⟨a8, rfl, _, _⟩ := (show FreshSl h4 h8 v8 72 2 _ _ from hO8.p1).is
      refine zz ?_
      refine Wo_storeO hwB hE8 rfl Tsz.h rfl rfl hO8.up4 rfl rfl rfl fun h9 hW9 hO9 hE9 => ?_
      have hO10 := (hO9.sub (.cons_cons _ (.cons_cons _ (.cons_cons _ (.cons _ (List.Sublist.refl _)))))).perm ((List.Perm.swap _ _ _).trans (.cons _ (.cons _ (List.perm_append_singleton _ _).symm)))
      refine zz ?_
      refine ⟨(i + 1, n2), (by show t.machines.length - (i + 1) < t.machines.length - i; omega), rfl, hi', (by show n2 <= (i + 1) * 60; omega), hE9, .slice a8 (X.length + 1) (X.length + 1), X ++ [(⟨t.machines[i].name, Q⟩, .slice aP Q.length Q.length)], (by rw [List.length_append, hXl]; rfl), fun j h1 h2 => ?_, ?_, rfl, rfl, rfl, rfl, rfl, rfl, trivial⟩
      · rw [List.length_append] at h1
        simp only [List.length_singleton] at h1
        by_cases e : j < X.length
        · rw [List.getElem_append_left e]; exact hXm j e h2
        · have e : j = i := by omega
          subst e
          rw [List.getElem_append_right (by omega)]
          simp only [hXl, Nat.sub_self, List.getElem_singleton]
          refine ⟨rfl, hQl, fun d => ?_⟩
          show t.machines[j].places.getD d 0 <= Q.getD d 0 /\ (d < t.machines[j].places.length -> 0 <= Q.getD d 0 /\ Q.getD d 0 <= 20)
          by_cases hd : d < t.machines[j].places.length
          · have g := hQm d (by omega) hd
            rw [List.getD_eq_getElem?_getD, List.getD_eq_getElem?_getD, List.getElem?_eq_getElem hd, List.getElem?_eq_getElem (show d < Q.length by omega)]
            exact ⟨g.1, fun _ => g.2⟩
          · rw [getD_out (by omega), getD_out (by omega)]
            exact ⟨Int.le_refl _, fun h => absurd h hd⟩
      · rw [List.flatMap_append, List.length_append, List.map_append]
        exact hO10
    have hk' : k < t.machines[i].places.length := by omega
    obtain ⟨bP, oP, oaP, rfl, hcp2⟩ := (ListAt.ext (ListAt.ext hI (Ext.refl _)) hE6) k hk'
    have hp01 := hpv _ (List.getElem_mem hk')
    have hfin : ∀ p : Int, t.machines[i].places[k] <= p -> p <= 20 -> ∀ d (h1 : d < (Q ++ [p]).length) (h2 : d < t.machines[i].places.length), t.machines[i].places[d] <= (Q ++ [p])[d] /\ 0 <= (Q ++ [p])[d] /\ (Q ++ [p])[d] <= 20 := fun p hp1 hp2 d h1 h2 => by
      rw [List.length_append] at h1
      simp only [List.length_singleton] at h1
      by_cases e : d < Q.length
      · rw [List.getElem_append_left e]; exact hQm d e h2
      · have e : d = k := by omega
        subst e
        rw [List.getElem_append_right (by omega)]
        simp only [hQl, Nat.sub_self, List.getElem_singleton]
        omega
    refine zz ?_
    refine Wo_do rfl rfl rfl rfl (A_ix Und.h Tsz.h rfl rfl) ?_
    refine zz ?_
    refine Wo_do rfl rfl rfl rfl (A_ix Und.h Tsz.h rfl rfl) ?_
    refine zz ?_
    by_cases hp0 : ps.length = 0
    · refine Wo_do rfl rfl rfl rfl (A_ff (by omega) (A_gtr rfl rfl)) ?_
      have hgo6 : h6.get bo = _ := hO.p2
      obtain ⟨aP, rfl, _, _⟩ := (show FreshSl h4 h6 vP 3 1 _ _ from hO.p1).is
      refine zz ?_
      refine Wo_bs rfl rfl Und.h Tsz.h Zr.h rfl rfl rfl rfl rfl fun h7 hE7 hW7 hg7 hx7 => ?_
      refine zz ?_
      refine Wo_appendO (by' := 8) (sz := 1) (k := 1) (n := Q.length) (l := [i64 (t.machines[i].places[k])]) hwB (hE6.trans hE7) rfl rfl rfl rfl rfl Und.h inferInstance rfl rfl (hO.ext hE7) ((FreshSl.lit (h0 := h4) (n := 1) (sz := 1) hg7 rfl hE6.2.1).src (dd := .slice 3) Und.h (by intro k; simp)) rfl rfl (by omega) (by omega) fun v8 h8 hW8 hO8 hE8 => ?_
      obtain ⟨a8, rfl, _, _⟩ := (show FreshSl h4 h8 v8 3 1 _ _ from hO8.p1).is
      refine zz ?_
      refine Wo_storeO hwB hE8 rfl Tsz.h rfl rfl hO8.up2 rfl rfl rfl fun h9 hW9 hO9 hE9 => ?_
      refine zz ?_
      exact ⟨(k + 1, n2 + 1), (by show t.machines[i].places.length - (k + 1) < t.machines[i].places.length - k; omega), rfl, hk', (by show n2 + 1 <= i * 60 + (k + 1); omega), hE9, _, Q ++ [t.machines[i].places[k]], (by rw [List.length_append, hQl]; rfl), hfin _ (by omega) (by omega), (by rw [List.map_append, List.length_append]; exact hO9.up2), rfl, rfl, rfl, rfl, rfl, rfl, rfl, rfl, trivial⟩
    · obtain ⟨bx, ox, oax, rfl, hcx⟩ := (ListAt.ext hxB hE6) (n2 % ps.length) (Nat.mod_lt _ (by omega))
      have hq := more_small _ 3 (.inl rfl) (hps _ (List.getElem_mem (Nat.mod_lt n2 (by omega)))).1 (hps _ (List.getElem_mem (Nat.mod_lt n2 (by omega)))).2
      refine Wo_do rfl rfl rfl rfl (A_tt (by omega) (A_gtr rfl rfl)) ?_
      refine zz ?_
      refine Wc_draw hmix [0, 0, 2, 0, 0, 16, 48, 120, 254, 510, 1022, 2046, 4095, 8191, 16383] [0, 1, 2, 3, 4, 5, 6, 7, 8, 9, 10, 11, 12, 13] (some 14) [([], none)] (by kernel_rfl) (by kernel_rfl) ?_
      refine z_m ?_; refine z_f ?_; refine z_l ?_; refine z_m ?_; refine z_f ?_; refine z_l ?_; refine z_c ?_; refine Wp_pure rfl rfl rfl rfl rfl (fun _ => A_rem rfl rfl (by omega)) ?_; refine Wp_pure rfl rfl rfl rfl rfl (fun _ => A_ix (k := n2 % ps.length) Und.h Tsz.h rfl rfl (Nat.mod_lt _ (by omega))) ?_; refine z_l ?_; refine Wp_pure rfl rfl rfl rfl rfl (fun _ => A_conv ⟨_, Und.h⟩ Und.h rfl) ?_; refine Wp_pure rfl rfl rfl rfl rfl (fun _ => A_rem rfl rfl (by decide)) ?_; refine Wp_pure rfl rfl rfl rfl rfl (fun _ => A_ad rfl rfl (by omega) (by omega)) ?_; refine z_v ?_
      refine Wp_eff [0, 1, 2, 3, 4, 5, 6, 7, 8, 9, 10, 11, 12, 13] (by kernel_rfl) rfl (Stl_nil rfl) rfl nb rfl (W1_op rfl rfl (A_assign rfl) ?_)
      refine Wp_end (Stl_nil rfl) nb' ?_
      have hgo6 : h6.get bo = _ := hO.p2
      obtain ⟨aP, rfl, _, _⟩ := (show FreshSl h4 h6 vP 3 1 _ _ from hO.p1).is
      refine zz ?_
      refine Wo_bs rfl rfl Und.h Tsz.h Zr.h rfl rfl rfl rfl rfl fun h7 hE7 hW7 hg7 hx7 => ?_
      refine zz ?_
      refine Wo_appendO (by' := 8) (sz := 1) (k := 1) (n := Q.length) (l := [i64 (min 20 (t.machines[i].places[k] + (IntKind.i64.wrap (ps[n2 % ps.length]'(Nat.mod_lt _ (by omega)))).tmod 3))]) hwB (hE6.trans hE7) rfl rfl rfl rfl rfl Und.h inferInstance rfl rfl (hO.ext hE7) ((FreshSl.lit (h0 := h4) (n := 1) (sz := 1) hg7 rfl hE6.2.1).src (dd := .slice 3) Und.h (by intro k; simp)) rfl rfl (by omega) (by omega) fun v8 h8 hW8 hO8 hE8 => ?_
      obtain ⟨a8, rfl, _, _⟩ := (show FreshSl h4 h8 v8 3 1 _ _ from hO8.p1).is
      refine zz ?_
      refine Wo_storeO hwB hE8 rfl Tsz.h rfl rfl hO8.up2 rfl rfl rfl fun h9 hW9 hO9 hE9 => ?_
      refine zz ?_
      exact ⟨(k + 1, n2 + 1), (by show t.machines[i].places.length - (k + 1) < t.machines[i].places.length - k; omega), rfl, hk', (by show n2 + 1 <= i * 60 + (k + 1); omega), hE9, _, Q ++ [min 20 (t.machines[i].places[k] + (IntKind.i64.wrap (ps[n2 % ps.length]'(Nat.mod_lt _ (by omega)))).tmod 3)], (by rw [List.length_append, hQl]; rfl), hfin _ (by omega) (by omega), (by rw [List.map_append, List.length_append]; exact hO9.up2), rfl, rfl, rfl, rfl, rfl, rfl, rfl, rfl, trivial⟩
  have hii : i = t.machines.length := by omega
  subst hii
  have hO1 := hO.nilSl 63 5
  refine zz ?_
  clear hO hall hip hi hn hgt
  refine Wc_loop (fun (j : Nat) m ds h' => ds = [] /\ j <= t.reels.length /\ Ext h4 h' /\ ∃ (v6 : Value) (Y : List (Reel × Value)), Y.length = j /\ (∀ i (h1 : i < Y.length) (h2 : i < t.reels.length), MoreR t t.reels[i] Y[i].1) /\ (∀ p ∈ Y, RowR h4 p) ∧
      Own h4 h' (slI h4 v6 63 5 (Y.flatMap rRow) Y.length :: slI h4 v5 72 2 (X.flatMap mRow) X.length :: ceI bu [i64 t.first, i64 t.days, v5, v6] 25 false :: X.map (lfI h4)) ∧
      AllK m [(2, ptr b2), (3, ptr b3), (5, .slice a (turnsG t (keptS t)).length (turnsG t (keptS t)).length), (11, ptr bu), (17, i64 j)]) (fun j => t.reels.length - j) 0 ?_ ?_
  · exact ⟨rfl, Nat.zero_le _, hE5, _, [], rfl, (fun j h1 => absurd h1 (Nat.not_lt_zero _)), (fun p hp => (List.not_mem_nil hp).elim), hO1, rfl, rfl, rfl, rfl, rfl, trivial⟩
  clear hO1 hE5 hw5
  clear h5 m
  rintro j m ds h5 ⟨rfl, hj, hE5, v6, Y, hYl, hYm, hYr, hO, hall⟩
  refine Wc_wf fun hw5 => ?_
  refine Wc.le ?_ (Le.kn hall)
  have hgt := hE5.get hg1
  have hgx := hE5.get hg2
  refine zz ?_
  refine Wo_dec rfl rfl rfl rfl (A_lss rfl rfl) (fun hjp => ?_) (fun hjp => ?_)
  · have hj' : j < t.reels.length := by omega
    obtain ⟨bR, oR, oaR, aq, cq, rfl, hrow0, hIq, _⟩ := reelRow hRB hj'
    rw [reelAt_nat hj'] at hrow0 hIq
    have hrow := hE5.row hrow0
    obtain ⟨q1, q2, q3, q4, q5⟩ := hV.rs _ (List.getElem_mem hj')
    have he4 := more_small early 4 (.inr rfl) hey.1 hey.2
    have hl4 := more_small later 4 (.inr rfl) hly.1 hly.2
    refine zz ?_
    refine Wo_do rfl rfl rfl rfl (A_ix Und.h Tsz.h rfl rfl) ?_
    refine zz ?_
    refine Wo_allocStore rfl rfl Zr.h Tsz.h rfl (fun _ => rfl) rfl rfl rfl fun h6 hE6 hW6 hg6 hn6 => ?_
    have hO6 := hO.newCe hw5 hE5.2.1 hE6 hg6 (Nat.le_refl _)
    replace hE5 := hE5.trans hE6
    replace hgt := hE6.get hgt
    replace hgx := hE6.get hgx
    generalize h5.nx = br at *
    clear hE6 hn6 hO hrow hw5
    clear h5
    refine zz ?_
    refine Wc_draw hmix [0, 1, 0, 4, 0, 16, 48, 112, 252, 511, 0, 1024, 0, 4096, 15360, 31744, 0, 65536, 0, 262144, 786432, 1835008, 4128768, 8387584, 197631, 16974847, 67108863, 134217727] [0, 1, 2, 3, 4, 5, 6, 7, 8, 9, 10, 11, 12, 13, 14, 15, 16, 17, 18, 19, 20, 21, 22, 23, 24] (some 25) [([26], (some 27)), ([], none)] (by kernel_rfl) (by kernel_rfl) ?_
    refine z_f ?_; refine z_l ?_; refine z_f ?_; refine z_l ?_; refine z_f ?_; refine z_l ?_; refine Wp_pure rfl rfl rfl rfl rfl (fun _ => A_conv ⟨_, Und.h⟩ Und.h rfl) ?_; refine Wp_pure rfl rfl rfl rfl rfl (fun _ => A_rem rfl rfl (by decide)) ?_; refine Wp_pure rfl rfl rfl rfl rfl (fun _ => A_sb rfl rfl (by omega) (by omega)) ?_; refine z_x ?_; refine z_f ?_; refine z_l ?_; refine z_f ?_; refine z_l ?_; refine z_y ?_; refine z_u ?_; refine z_f ?_; refine z_l ?_; refine z_f ?_; refine z_l ?_; refine Wp_pure rfl rfl rfl rfl rfl (fun _ => A_conv ⟨_, Und.h⟩ Und.h rfl) ?_; refine Wp_pure rfl rfl rfl rfl rfl (fun _ => A_rem rfl rfl (by decide)) ?_; refine Wp_pure rfl rfl rfl rfl rfl (fun _ => A_ad rfl rfl (by omega) (by omega)) ?_; refine z_v ?_; refine z_f ?_
    refine Wp_eff [0, 1, 2, 3, 4, 5, 6, 7, 8, 9, 16, 17, 24] (by kernel_rfl) rfl (Stl_nil rfl) rfl nb rfl (W1_wfK (W1_storeO rfl hwB hE5 rfl Tsz.h rfl rfl hO6 rfl rfl rfl (fun h7 hO7 hE7 hW7 => ?_)))
    have hgt7 := hE7.get hg1
    have hgx7 := hE7.get hg2
    refine z_f ?_
    refine Wp_eff [0, 1, 2, 3, 4, 5, 6, 7, 8, 9, 10, 11, 12, 13, 14, 15, 16, 17, 18, 19, 20, 21, 22, 23, 24, 25, 26] (by kernel_rfl) rfl (by refine t_v 23 ?_; refine Stl_pure (i := 22) rfl rfl rfl rfl rfl (fun _ => A_ad rfl rfl (by omega) (by omega)) rfl ?_; refine Stl_pure (i := 21) rfl rfl rfl rfl rfl (fun _ => A_rem rfl rfl (by decide)) rfl ?_; refine Stl_pure (i := 20) rfl rfl rfl rfl rfl (fun _ => A_conv ⟨_, Und.h⟩ Und.h rfl) rfl ?_; refine t_l 19 ?_; refine t_f 18 ?_; refine t_u 15 ?_; refine t_y 14 ?_; refine t_l 13 ?_; refine t_f 12 ?_; refine t_l 11 ?_; refine t_f 10 ?_; exact Stl_nil rfl) rfl nb rfl (W1_wfK (W1_storeO rfl hwB hE7 rfl Tsz.h rfl rfl hO7 rfl rfl rfl (fun h8 hO8 hE8 hW8 => ?_)))
    have hgt8 := hE8.get hg1
    have hgx8 := hE8.get hg2
    refine Wp_end (Stl_nil rfl) nb' ?_
    clear hO6 hO7 hE5 hE7 hg6 hgt hgx hW6 hW7 hgt7 hgx7 hgt8 hgx8
    clear h6 h7
    have hgr : h8.get br = _ := hO8.p1
    have hgu : h8.get bu = _ := hO8.p4
    obtain ⟨a6, rfl, _, _⟩ := (show FreshSl h4 h8 v6 63 5 _ _ from hO8.p2).is
    refine zz ?_
    refine Wo_bs rfl rfl Und.h Tsz.h Zr.h rfl rfl rfl rfl rfl fun h9 hE9 hW9 hg9 hx9 => ?_
    refine zz ?_
    refine Wo_appendO (by' := 64) (sz := 5) (k := 1) (n := Y.length) (l := [str t.reels[j].name, .slice aq t.reels[j].machines.length cq, i64 (max t.first (t.reels[j].ready - (IntKind.i64.wrap early).tmod 4)), i64 (min (t.first + t.days - 1) (t.reels[j].due + (IntKind.i64.wrap later).tmod 4)), i64 t.reels[j].risk]) hwB (hE8.trans hE9) rfl rfl rfl rfl rfl Und.h inferInstance rfl rfl (hO8.ext hE9).up2 ((FreshSl.lit (h0 := h4) (n := 1) (sz := 5) hg9 rfl hE8.2.1).src (dd := .slice 63) Und.h (by intro k; simp)) rfl rfl (by omega) (by omega) fun v10 h10 hW10 hO10 hE10 => ?_
    obtain ⟨a10, rfl, _, _⟩ := (show FreshSl h4 h10 v10 63 5 _ _ from hO10.p1).is
    refine zz ?_
    refine Wo_storeO hwB hE10 rfl Tsz.h rfl rfl hO10.up4 rfl rfl rfl fun h11 hW11 hO11 hE11 => ?_
    have hO12 := (hO11.sub (.cons_cons _ (.cons_cons _ (.cons _ (List.Sublist.refl _))))).perm ((List.Perm.swap _ _ _).trans (.cons _ (List.Perm.swap _ _ _)))
    refine zz ?_
    refine ⟨j + 1, (by show t.reels.length - (j + 1) < t.reels.length - j; omega), rfl, hj', hE11, .slice a10 (Y.length + 1) (Y.length + 1), Y ++ [(⟨t.reels[j].name, t.reels[j].machines, max t.first (t.reels[j].ready - (IntKind.i64.wrap early).tmod 4), min (t.first + t.days - 1) (t.reels[j].due + (IntKind.i64.wrap later).tmod 4), t.reels[j].risk⟩, .slice aq t.reels[j].machines.length cq)], (by rw [List.length_append, hYl]; rfl), fun i h1 h2 => ?_, fun p hp => ?_, ?_, rfl, rfl, rfl, rfl, rfl, trivial⟩
    · rw [List.length_append] at h1
      simp only [List.length_singleton] at h1
      by_cases e : i < Y.length
      · rw [List.getElem_append_left e]; exact hYm i e h2
      · have e : i = j := by omega
        subst e
        rw [List.getElem_append_right (by omega)]
        simp only [hYl, Nat.sub_self, List.getElem_singleton]
        refine ⟨rfl, rfl, rfl, ?_, ?_, ?_, ?_⟩
        all_goals simp only
        all_goals omega
    · rcases List.mem_append.1 hp with g | g
      · exact hYr p g
      · rw [List.mem_singleton.1 g]
        exact ⟨aq, cq, rfl, hIq⟩
    · rw [List.flatMap_append, List.length_append]
      exact hO12
  have hjj : j = t.reels.length := by omega
  subst hjj
  have hMT : MoreT t (uOf2 t X Y) := ⟨rfl, rfl, (by show (X.map Prod.fst).length = _; rw [List.length_map, hXl]), (by show (Y.map Prod.fst).length = _; rw [List.length_map, hYl]), fun i h1 h2 => by
      have h3 : i < X.length := by rw [hXl]; exact h1
      have e : (uOf2 t X Y).machines[i] = X[i].1 := List.getElem_map _
      rw [e]; exact hXm i h3 h1, fun i h1 h2 => by
      have h3 : i < Y.length := by rw [hYl]; exact h1
      have e : (uOf2 t X Y).reels[i] = Y[i].1 := List.getElem_map _
      rw [e]; exact hYm i h3 h1⟩
  have hUN := hMT.noErr hNE
  have hU0 := errS_iff.2 hUN
  have hUV := valid_of hU0
  have hUF : (uOf2 t X Y).Fit := fit_valid hUV (fun m hm => by
      obtain ⟨i, h2, rfl⟩ := List.getElem_of_mem hm
      have h1 : i < t.machines.length := by rw [<- hMT.ml]; exact h2
      rw [(hMT.ms i h1 h2).1]
      exact (hf.msF _ (List.getElem_mem h1)).name) fun r hr => by
      obtain ⟨i, h2, rfl⟩ := List.getElem_of_mem hr
      have h1 : i < t.reels.length := by rw [<- hMT.rl]; exact h2
      obtain ⟨e1, e2, _⟩ := hMT.rs i h1 h2
      rw [e1, e2]
      have := hf.rsF _ (List.getElem_mem h1)
      exact ⟨this.name, this.ms, this.msI⟩
  have hUT : TaskAt h5 [i64 t.first, i64 t.days, v5, v6] (uOf2 t X Y) := task_of2 hO.p2 (fun p hp => hO.has _ (List.mem_cons_of_mem _ (List.mem_cons_of_mem _ (List.mem_cons_of_mem _ (List.mem_map.2 ⟨p, hp, rfl⟩))))) hO.p1 fun p hp => (hYr p hp).ext hE5
  have hlaw := more_law hMT hNE
  obtain ⟨hk1, hk2, hk3⟩ := plan_lens (uOf2 t X Y)
  have hgu : h5.get bu = _ := hO.p3
  have hgt5 := hE5.get hg1
  have hJ1 : judgeS t (turnsG t (keptS t)) = (leftS t (turnsG t (keptS t)), 0) := by rw [judgeS, if_neg (fun x => x c0), if_neg (fun x => x (plan_judged hV))]
  have hJ2 : judgeS (uOf2 t X Y) (turnsG (uOf2 t X Y) (keptS (uOf2 t X Y))) = (leftS (uOf2 t X Y) (turnsG (uOf2 t X Y) (keptS (uOf2 t X Y))), 0) := by rw [judgeS, if_neg (fun x => x hU0), if_neg (fun x => x (plan_judged hUV))]
  have hu1 := plan_turns_fit hUV
  have ht1 := plan_turns_fit hV
  have hq0 := hUV.r1
  clear hXm hYm hYr hall hjp hj hg2 hxB hps
  refine zz ?_
  refine Wo_callr rfl rfl rfl rfl rfl Bod.h rfl rfl (rescuePlan_sv hUT hUF) ?_
  rintro _ h6 ⟨⟨a2, al2, rfl, hT2, hL2⟩, hE6⟩
  rw [planS_ok hU0] at hT2 hk1 ⊢
  replace hk1 : (turnsG (uOf2 t X Y) (keptS (uOf2 t X Y))).length <= 24 := hk1
  replace hT2 : TurnsAt h6 a2 (turnsG (uOf2 t X Y) (keptS (uOf2 t X Y))) := hT2
  have hE56 := hE5.trans hE6
  have hgt6 := hE6.get hgt5
  replace hgu := hE6.get hgu
  clear hgt5 hw5 hL2
  have hj1 := rescueJudge_sv (cap := (turnsG t (keptS t)).length) (htB.ext hE56) hf (hT.ext hE56) ht1 (show (turnsG t (keptS t)).length < 9223372036854775808 by omega)
  rw [hJ1] at hj1
  refine zz ?_
  refine Wo_callE rfl rfl rfl rfl rfl Bod.h rfl rfl (hj1) fun h7 hE7 => ?_
  replace hgu := hE7.get hgu
  unfold tup2
  have hj2 := rescueJudge_sv (cap := (turnsG (uOf2 t X Y) (keptS (uOf2 t X Y))).length) (hUT.ext (hE6.trans hE7)) hUF (hT2.ext hE7) hu1 (show (turnsG (uOf2 t X Y) (keptS (uOf2 t X Y))).length < 9223372036854775808 by omega)
  rw [hJ2] at hj2
  refine zz ?_
  refine Wo_callE rfl rfl rfl rfl rfl Bod.h rfl rfl (hj2) fun h8 hE8 => ?_
  have hEf := (hE1.trans hE56).trans (hE7.trans hE8)
  unfold tup2
  refine zz ?_
  refine Wo_do rfl rfl rfl rfl (A_tt rfl (A_eql rfl rfl)) ?_
  refine zz ?_
  refine Wo_do rfl rfl rfl rfl (A_tt rfl (A_eql rfl rfl)) ?_
  refine zz ?_
  refine Wo_do rfl rfl rfl rfl (A_tt rfl (A_eql rfl rfl)) ?_
  refine zz ?_
  refine Wo_do rfl rfl rfl rfl (A_tt hlaw (A_leq rfl rfl)) ?_
  refine zz ?_
  refine Wo_callV rfl rfl rfl rfl rfl Bod.h rfl rfl (awake_sv _) ?_
  refine zz ?_
  exact Wc_ret (Lv_ret rfl ⟨rfl, hEf⟩)
end Go.Dw
/- Z6: reading how much more: bytes, the struct More. -/
namespace Go.Dw
open Go Go.Dx Go.Proofs
set_option maxRecDepth 100000
section
variable {P : Program} {H : Type} {enc : TypeId × Value -> H} {W : World} {cs : List Value} {t : TypeId}
theorem rd_u8 (ht : P.underlying t = some (.int .u8)) (h : Rd enc P W t cs) : ∃ n, cs = [u8 n] /\ 0 <= n /\ n <= 255 := by
  obtain ⟨m, x, hx⟩ := h
  obtain ⟨n, h1, _, h3⟩ := DataW.trod_int ht hx
  refine ⟨n, h1, ?_⟩
  simp [Lit.wf] at h3
  have h4 : IntKind.u8.min = 0 := by decide
  have h5 : IntKind.u8.max = 255 := by decide
  omega
end
section
variable {H : Type} {enc : TypeId × Value -> H} {W : World} {cs : List Value}
theorem rd_more (h : Rd enc Tryz.prog W 70 cs) : ∃ (ax : Option Addr) (cx : Nat) (ps : List Int) (e l : Int), cs.all (okv W.heap.size) = true /\ cs.map nz = [.slice ax ps.length cx, u8 e, u8 l] /\ ListAt u8 (ro W) ax ps /\ Len ps /\ (∀ b ∈ ps, 0 <= b /\ b <= 255) /\ (0 <= e /\ e <= 255) /\ (0 <= l /\ l <= 255) := by
  obtain ⟨h1, h2⟩ := rd_struct Tryz.underlying70 h
  have c70 : Tryz.prog.cellsOf 70 = 3 := by kernel_rfl
  have c68 : Tryz.prog.cellsOf 68 = 1 := by kernel_rfl
  have c5 : Tryz.prog.cellsOf 5 = 1 := by kernel_rfl
  rw [c70] at h1
  obtain ⟨x0, x1, x2, rfl⟩ : ∃ x0 x1 x2, cs = [x0, x1, x2] := by
    match cs, h1 with
    | [x0, x1, x2], _ => exact ⟨x0, x1, x2, rfl⟩
  have f0 : Rd enc Tryz.prog W 68 (([x0, x1, x2].drop 0).take (Tryz.prog.cellsOf 68)) := h2 0 _ rfl
  rw [c68] at f0
  have f1 : Rd enc Tryz.prog W 5 (([x0, x1, x2].drop 1).take (Tryz.prog.cellsOf 5)) := h2 1 _ rfl
  rw [c5] at f1
  have f2 : Rd enc Tryz.prog W 5 (([x0, x1, x2].drop 2).take (Tryz.prog.cellsOf 5)) := h2 2 _ rfl
  rw [c5] at f2
  obtain ⟨v, a, l, cap, e0, ok0, nz0, hI, hL, hF⟩ := rd_list (encA := u8) (Fit := fun b => 0 <= b /\ b <= 255) Tryz.underlying68 c5 (fun row hr => by
    obtain ⟨n, h1, h2⟩ := rd_u8 Tryz.underlying5 hr
    exact ⟨n, _, h1, rfl, rfl, h2⟩) f0
  obtain ⟨n1, e1, l1⟩ := rd_u8 Tryz.underlying5 f1
  obtain ⟨n2, e2, l2⟩ := rd_u8 Tryz.underlying5 f2
  simp at e0 e1 e2
  subst e0; subst e1; subst e2
  refine ⟨a, cap, l, n1, n2, by simp [ok0]; exact ⟨rfl, rfl⟩, ?_, hI, hL, hF, l1, l2⟩
  simp only [List.map_cons, List.map_nil, nz0]; rfl
end
end Go.Dw
