/- GS: contracts: the library's sorting of loans. -/
import Derived.Test.YtfgeelpahicelaaGreatDoorPG8
import Derived.Test.YtfgeelpahicelaaGreatDoorPG7
import Derived.Test.YtfgeelpahicelaaGreatDoorPG2
import Derived.Test.YtfgeelpahicelaaGreatDoorPG5
namespace Go.Dw
open Go Go.Dx Go.Proofs Go.Sort Go.RowKit Go.Lib
set_option maxRecDepth 100000
section
variable {α : Type} [Inhabited α] {enc : α -> Value} {w : World} {blk n : Nat} {os : Array Obj} {c : Array Value} {el : TypeId} {d : Array α}
theorem sortedW (hb : w.heap[blk]? = some (.cells c el (0, 0))) : w.heap.size <= (grow (putRow enc (Sort.ahead w n) blk 0 d) os).heap.size /\ ∀ k, k < w.heap.size -> (grow (putRow enc (Sort.ahead w n) blk 0 d) os).heap[k]? = (w.heap.setIfInBounds blk (.cells (putCells enc 0 d c) el (0, 0)))[k]? := by
  refine ⟨by simp, fun k hk => ?_⟩
  rw [heap_grow_old _ _ (by simpa using hk)]
  obtain ⟨h1, h2⟩ := Array.getElem?_eq_some_iff.1 hb
  rw [Array.getElem?_setIfInBounds]
  by_cases e : blk = k
  · subst e
    rw [if_pos rfl, if_pos hk]
    simp [putRow, mapBlock, Sort.ahead, Array.getElem?_modify, onCells, hb]
  · rw [if_neg e]
    simp [putRow, mapBlock, Sort.ahead, Array.getElem?_modify, e]
theorem putCells_size : (putCells enc 0 d c).size = c.size := by simp [putCells]
theorem take_putCells (h : d.size <= c.size) : (putCells enc 0 d c).toList.take d.size = d.toList.map enc := by
  apply List.ext_getElem?
  intro j
  by_cases hj : j < d.size
  · rw [List.getElem?_take_of_lt hj, Array.getElem?_toList]
    simp [putCells, hj, show j < c.size by omega, getElem!_pos d j hj]
  · rw [List.getElem?_take_eq_none (by omega), List.getElem?_eq_none (by simp; omega)]
theorem holds_of (hb : w.heap[blk]? = some (.cells c el (0, 0))) (ht : c.toList.take d.size = d.toList.map enc) : Holds enc w blk 0 d := by
  intro j hj
  refine ⟨?_, by simp [World.frozen?, hb]⟩
  have h1 : (c.toList.take d.size)[j]? = (d.toList.map enc)[j]? := by rw [ht]
  rw [List.getElem?_take_of_lt hj] at h1
  simp only [World.cell?, hb, Nat.zero_add]
  simp only [Option.isSome_none, Bool.false_eq_true, if_false]
  rw [<- Array.getElem?_toList, h1]
  simp [hj, getElem!_pos d j hj]
end
def lnRow (x : ScL) : List Value := [i64 x.print, i64 x.venue, i64 x.days.lo, i64 x.days.hi]
def LoanE : Type := { x : ScL // 0 <= x.days.lo /\ x.days.lo <= 80000 }
instance : Inhabited LoanE := ⟨⟨⟨0, 0, ⟨0, 0⟩⟩, by decide⟩⟩
def encN (x : LoanE) : List Value := lnRow x.1
def cfN (x y : LoanE) : Int := x.1.days.lo - y.1.days.lo
theorem encN_len (x : LoanE) : (encN x).length = 4 := rfl
theorem cfN_swo : SWO (ltOf cfN) := by
  refine ⟨fun x => ?_, fun x y z h1 h2 => ?_, fun x y z h1 h2 => ?_⟩
  · exact decide_eq_false (by unfold cfN; omega)
  · have k1 : x.1.days.lo - y.1.days.lo < 0 := of_decide_eq_true h1
    have k2 : y.1.days.lo - z.1.days.lo < 0 := of_decide_eq_true h2
    exact decide_eq_true (show x.1.days.lo - z.1.days.lo < 0 by omega)
  · have k1 : ¬ x.1.days.lo - y.1.days.lo < 0 := of_decide_eq_false h1
    have k2 : ¬ y.1.days.lo - z.1.days.lo < 0 := of_decide_eq_false h2
    exact decide_eq_false (show ¬ x.1.days.lo - z.1.days.lo < 0 by omega)
theorem flatN_list (d : Array LoanE) : (flatK encN 4 d).toList = d.toList.flatMap encN := by
  have hlen : ∀ l : List LoanE, (l.flatMap encN).length = l.length * 4 := by
    intro l
    induction l with
    | nil => rfl
    | cons x l ih => rw [List.flatMap_cons, List.length_append, ih, encN_len, List.length_cons]; omega
  apply List.ext_getElem?
  intro t
  by_cases ht : t < d.size * 4
  · have hi : t / 4 < d.toList.length := by rw [Array.length_toList]; omega
    have h1 := cut_flat (f := encN) (k := 4) (P := d.toList) hi fun _ _ => rfl
    rw [cut_le (by rw [hlen, Array.length_toList]; omega)] at h1
    have h2 : ((List.drop (t / 4 * 4) (d.toList.flatMap encN)).take 4)[t % 4]? = (encN d.toList[t / 4])[t % 4]? := congrArg (fun l : List Value => l[t % 4]?) (Option.some.inj h1)
    rw [List.getElem?_take_of_lt (by omega), List.getElem?_drop, show t / 4 * 4 + t % 4 = t by omega] at h2
    rw [h2, Array.getElem?_toList, Array.getElem?_eq_getElem (by simpa using ht)]
    have h3 := get_flatK encN 4 d t ht
    rw [getElem!_pos _ t (by simpa using ht)] at h3
    rw [h3, getElem!_pos d (t / 4) (by omega), Array.getElem_toList, List.getElem?_eq_getElem (by rw [encN_len]; omega), getElem!_pos _ _ (by rw [encN_len]; omega)]
  · rw [List.getElem?_eq_none (by simp; omega), List.getElem?_eq_none (by rw [hlen, Array.length_toList]; omega)]
theorem lnRows_len (P : List ScL) : (P.flatMap lnRow).length = P.length * 4 := by
  induction P with
  | nil => rfl
  | cons x l ih => rw [List.flatMap_cons, List.length_append, ih, List.length_cons]; show 4 + _ = _; omega
theorem lnRows_flat : ∀ P : List ScL, flatL (P.flatMap lnRow) = true
  | [] => rfl
  | p :: P => by
    rw [List.flatMap_cons]
    show flatL (i64 p.print :: i64 p.venue :: i64 p.days.lo :: i64 p.days.hi :: P.flatMap lnRow) = true
    simp only [flatL, flat, Bool.true_and]
    exact lnRows_flat P
set_option maxHeartbeats 1000000 in
theorem byLo' (a b : Int) (u1 u2 u3 v1 v2 v3 : Value) (hw : IntKind.i64.wrap (a - b) = a - b) (W : World) : Calls Tryz.prog 175 #[.agg #[u1, u2, .int .i64 a, u3], .agg #[v1, v2, .int .i64 b, v3]] W fun e w' => e = .returned (.int .i64 (a - b)) /\ ∃ q os', w' = grow (W.drewN q) os' := by
  go_enter Tryz.func175, Tryz.ntmps175
  go_wp2
  go_ret
  exact ⟨rfl, 0, _, by rw [alloc_eq_grow, alloc_eq_grow, grow_grow]; rfl⟩
theorem byLo (x y : LoanE) (W : World) : Calls Tryz.prog 175 #[.agg (encN x).toArray, .agg (encN y).toArray] W fun e w' => e = .returned (.int .i64 (cfN x y)) /\ ∃ q os', w' = grow (W.drewN q) os' :=
  byLo' x.1.days.lo y.1.days.lo _ _ _ _ _ _ (IntWalk.i64_in _ (by have := x.2; have := y.2; omega)) W
theorem loans_lift : ∀ {P : List ScL}, (∀ p ∈ P, 0 <= p.days.lo /\ p.days.lo <= 80000) -> ∃ Z : List LoanE, Z.map (fun x : LoanE => x.1) = P /\ Z.length = P.length /\ Z.flatMap encN = P.flatMap lnRow
  | [], _ => ⟨[], rfl, rfl, rfl⟩
  | p :: P, h => by
    obtain ⟨Z, e, e2, e3⟩ := loans_lift (P := P) fun x hx => h x (List.mem_cons_of_mem _ hx)
    exact ⟨(⟨p, h p List.mem_cons_self⟩ : LoanE) :: Z, congrArg (List.cons p) e, congrArg Nat.succ e2, by show lnRow p ++ Z.flatMap encN = lnRow p ++ P.flatMap lnRow; rw [e3]⟩
theorem sortLoans_sv {h0 h : Heap} {v : Value} {P : List ScL} (hF : FreshSl h0 h v 51 4 (P.flatMap lnRow) P.length) (hn : P.length < 1000000) (hrl : ∀ p ∈ P, 0 <= p.days.lo /\ p.days.lo <= 80000) :
    Sv Tryz.prog 174 [v, .func (.func 175) ⟨[]⟩ ⟨[]⟩] h (RetP fun r h' => r = .tuple ⟨[]⟩ /\ ∃ P' : List ScL, P'.Perm P /\ P'.Pairwise (fun a b => a.days.lo <= b.days.lo) /\ FreshSl h0 h' v 51 4 (P'.flatMap lnRow) P.length /\ Exb (fun c => blkOf v = some c) h h') := by
  refine ⟨fun ι w args' hr hv => ?_⟩
  obtain ⟨l', rfl, hv⟩ := hv.arr
  cases hv with
  | cons hv1 hv2 =>
    cases hv2 with
    | cons hv3 hv4 =>
      cases hv4
      have e3 := hv3.flat_eq rfl
      subst e3
      rcases hF.lies hr hv1 (by decide) with ⟨rfl, rfl, hz, hn0⟩ | ⟨b, bi, op, cap, c, hb, hg, hi, rfl, hc, hle, hV, hl, hnew⟩
      · have : P = [] := List.eq_nil_of_length_eq_zero hn0
        subst this
        refine (AnyF.slices_SortFunc_none laySortF none 0 _ w).mono ?_
        rintro e w' ⟨rfl, rfl⟩
        exact ⟨.ret (.tuple ⟨[]⟩) h, ⟨rfl, [], .refl _, .nil, FreshSl.nil _ _ _ _, Exb.refl _ _⟩, PostV_unch hr (VR.of_flat ι rfl) ⟨Nat.le_refl _, fun _ _ => rfl, rfl, rfl⟩⟩
      · obtain ⟨Z, e1, hZl, e2⟩ := loans_lift hrl
        have hcz := hV.flat_eq (lnRows_flat P)
        rw [lnRows_len] at hle hcz
        have hD : (Z.toArray : Array LoanE).size = P.length := by simp [hZl]
        have hfl : (flatK encN 4 Z.toArray).toList = c.toList.take (P.length * 4) := by rw [flatN_list, hcz]; exact e2
        have hH : HoldsK encN 4 w bi.blk 0 Z.toArray := holds_of (enc := id) hc (by rw [size_flatK, hD, hfl, List.map_id])
        obtain ⟨hbs, -⟩ := Array.getElem?_eq_some_iff.1 hc
        have hK := AnyQ.slices_SortFunc laySortF 4 Tryz.isAgg51 Tryz.sizeOf51 encN encN_len (fun x v hv => by
          simp only [encN, lnRow, List.mem_cons, List.not_mem_nil, or_false] at hv
          rcases hv with rfl | rfl | rfl | rfl <;> rfl) cfN cfN_swo 175 #[] bi.blk 0 cap Z.toArray w (enters_of Tryz.func175 (by kernel_rfl) rfl) (fun _ _ _ _ x y => byLo x y _) hH hbs (by omega)
        rw [hD] at hK
        refine hK.mono ?_
        rintro e w' ⟨rfl, d', k, os, hp, hs, rfl⟩
        obtain ⟨hp1, -, hp2⟩ := hp
        rw [hD] at hp1
        have hp3 : d'.toList.Perm Z := by
          have x1 : (d'.extract 0 P.length).toList = d'.toList := by rw [Array.toList_extract]; simp; rw [List.take_of_length_le (by rw [Array.length_toList]; omega)]
          have x2 : (Z.toArray.extract 0 P.length).toList = Z := by rw [Array.toList_extract]; simp; rw [List.take_of_length_le (by omega)]
          rw [x1, x2] at hp2; exact hp2
        have hPp : (d'.toList.map (fun x : LoanE => x.1)).Perm P := by rw [<- e1]; exact hp3.map _
        have hPl : (d'.toList.map (fun x : LoanE => x.1)).length = P.length := hPp.length_eq
        have e4 : d'.toList.flatMap encN = (d'.toList.map (fun x : LoanE => x.1)).flatMap lnRow := by rw [List.flatMap_map]; rfl
        have hfs : (flatK encN 4 d').size = P.length * 4 := by rw [size_flatK, hp1]
        have hP := PostV_row (h := h) (vs2 := (d'.toList.map (fun x : LoanE => x.1)).flatMap lnRow) (c2 := putCells id 0 (flatK encN 4 d') c) (r := .tuple ⟨[]⟩) (r' := .tuple ⟨[]⟩) hr hg hi hc putCells_size (by rw [lnRows_len, lnRows_len, hPl]) (by
          have := take_putCells (enc := id) (d := flatK encN 4 d') (c := c) (by rw [hfs]; exact hle)
          rw [hfs, List.map_id, flatN_list, e4] at this
          rw [lnRows_len, hPl, this]
          exact VRL.of_flat ι (lnRows_flat _)) (VR.of_flat ι rfl) (sortedW (enc := id) (d := flatK encN 4 d') (n := k) (os := os) hc).1 (sortedW hc).2 rfl rfl
        refine ⟨.ret (.tuple ⟨[]⟩) (h.set b (.cells ((d'.toList.map (fun x : LoanE => x.1)).flatMap lnRow) 51 op)), ⟨rfl, d'.toList.map (fun x : LoanE => x.1), hPp, ?_, hnew _ _ op (by rw [lnRows_len, lnRows_len, hPl]) (Upd.mk' h b _).at', ?_⟩, hP⟩
        · rw [List.pairwise_map, List.pairwise_iff_getElem]
          intro i j hi hj hij
          rw [Array.length_toList] at hi hj
          have h5 : ¬ cfN d'[j]! d'[i]! < 0 := of_decide_eq_false (hs i j (Nat.zero_le _) hij (by omega))
          rw [getElem!_pos d' i hi, getElem!_pos d' j hj] at h5
          unfold cfN at h5
          simp only [Array.getElem_toList]
          omega
        · refine (Exb.ofUpd (Upd.mk' h b _)).mono fun x hx => by rw [hx]; exact hb
end Go.Dw
/- G6: contracts: whether a loan can be granted, package screen. -/
namespace Go.Dw
open Go Go.Dx Go.Proofs
set_option maxRecDepth 100000
theorem ven_at {h : Heap} {a : Option Addr} {t : ScT} (m3 : RowsAt 9 ScVR h a t.venues) {v : Int} (h0 : 0 <= v) (h1 : v < t.venues.length) : ∃ b o oa, a = some ⟨b, o, oa⟩ /\ cellAt h b (o + v.toNat * 9 + 1) = some (i64 (venLand t v)) := by
  obtain ⟨b, o, oa, e, row, hrow, hr⟩ := m3 v.toNat (by omega)
  obtain rfl := hr
  refine ⟨b, o, oa, e, ?_⟩
  have : venLand t v = t.venues[v.toNat].land := by unfold venLand; rw [List.getD_eq_getElem?_getD, List.getElem?_eq_getElem (by omega)]; rfl
  rw [this]
  exact cell_of_row hrow rfl
theorem home_at {h : Heap} {a : Option Addr} {t : ScT} (m5 : RowsAt 7 ScPR h a t.prints) {v : Int} (h0 : 0 <= v) (h1 : v < t.prints.length) : ∃ b o oa, a = some ⟨b, o, oa⟩ /\ cellAt h b (o + v.toNat * 7 + 6) = some (i64 (homeG t v)) := by
  obtain ⟨b, o, oa, e, row, hrow, ap, cp, hr, -⟩ := m5 v.toNat (by omega)
  subst hr
  refine ⟨b, o, oa, e, ?_⟩
  have : homeG t v = t.prints[v.toNat].land := by unfold homeG; rw [List.getD_eq_getElem?_getD, List.getElem?_eq_getElem (by omega)]; rfl
  rw [this]
  exact cell_of_row hrow rfl
theorem trav_ok {t : ScT} (hO : ScOk t) : t.travel.length = t.lands.length /\ ∀ l ∈ t.travel, l.length = t.lands.length /\ ∀ n ∈ l, -1 <= n /\ n <= 60 := by
  have h := hO.travel
  unfold travelErr at h
  split at h
  · cases h
  rename_i h1
  split at h
  · cases h
  rename_i h2
  split at h
  · cases h
  rename_i h3
  refine ⟨by omega, fun l hl => ⟨?_, fun n hn => ?_⟩⟩
  · rw [Bool.not_eq_true, List.any_eq_false] at h2
    have := h2 l hl
    simpa using this
  · rw [Bool.not_eq_true, List.any_eq_false] at h3
    have h4 := h3 l hl
    rw [Bool.not_eq_true, List.any_eq_false] at h4
    have := h4 n hn
    simp at this
    omega
theorem trv_at {h : Heap} {a : Option Addr} {t : ScT} (hO : ScOk t) (m2 : RowsAt 1 ScTvR h a t.travel) {i j : Int} (i0 : 0 <= i) (i1 : i < t.lands.length) (j0 : 0 <= j) (j1 : j < t.lands.length) :
    ∃ b o oa, a = some ⟨b, o, oa⟩ /\ ∃ b' o' oa' c, cellAt h b (o + i.toNat * 1) = some (.slice (some ⟨b', o', oa'⟩) t.lands.length c) /\ cellAt h b' (o' + j.toNat * 1) = some (i64 (trv t i j)) /\ i.toNat < t.travel.length /\ -1 <= trv t i j /\ trv t i j <= 60 := by
  obtain ⟨hl, hr⟩ := trav_ok hO
  have hi : i.toNat < t.travel.length := by omega
  obtain ⟨b, o, oa, e, row, hrow, ap, cp, rfl, hI⟩ := m2 i.toNat hi
  have hm := hr _ (List.getElem_mem hi)
  obtain ⟨b', o', oa', rfl, hc⟩ := hI j.toNat (by omega)
  have hv : trv t i j = t.travel[i.toNat][j.toNat]'(by omega) := by
    unfold trv
    rw [List.getD_eq_getElem?_getD (l := t.travel), List.getElem?_eq_getElem hi, Option.getD_some, List.getD_eq_getElem?_getD, List.getElem?_eq_getElem (by omega), Option.getD_some]
  have hb := hm.2 _ (List.getElem_mem (show j.toNat < t.travel[i.toNat].length by omega))
  rw [hv]
  exact ⟨b, o, oa, e, b', o', oa', cp, by rw [<- hm.1]; exact cell_of_row (k := 0) hrow rfl, hc, hi, hb.1, hb.2⟩
theorem venLand_ok {t : ScT} (hO : ScOk t) {v : Int} (h0 : 0 <= v) (h1 : v < t.venues.length) : 0 <= venLand t v /\ venLand t v < t.lands.length := by
  have hv : v.toNat < t.venues.length := by omega
  have : venLand t v = t.venues[v.toNat].land := by unfold venLand; rw [List.getD_eq_getElem?_getD, List.getElem?_eq_getElem hv]; rfl
  have h2 := hO.venues _ (List.getElem_mem hv)
  rw [this]
  unfold venueErr at h2
  split at h2
  · cases h2
  rename_i h3
  unfold abroad at h3
  omega
theorem home_ok {t : ScT} (hO : ScOk t) {v : Int} (h0 : 0 <= v) (h1 : v < t.prints.length) : 0 <= homeG t v /\ homeG t v < t.lands.length := by
  have hv : v.toNat < t.prints.length := by omega
  have : homeG t v = t.prints[v.toNat].land := by unfold homeG; rw [List.getD_eq_getElem?_getD, List.getElem?_eq_getElem hv]; rfl
  have h2 := hO.prints _ (List.getElem_mem hv)
  rw [this]
  unfold printErr at h2
  split at h2
  · cases h2
  split at h2
  · cases h2
  split at h2
  · cases h2
  split at h2
  · rename_i h3; exact absurd h2 h3
  split at h2
  · cases h2
  rename_i h3
  unfold abroad at h3
  omega
theorem ln_ok {t : ScT} {x : ScL} (h : loanErr t x = 0) : (0 <= x.print /\ x.print < t.prints.length) /\ (0 <= x.venue /\ x.venue < t.venues.length) /\ 0 <= x.days.lo /\ x.days.lo <= x.days.hi /\ x.days.hi <= 80000 := by
  unfold loanErr oddS at h
  split at h
  · cases h
  split at h
  · cases h
  split at h
  · cases h
  omega
theorem lnRows_at {h0 h : Heap} {v : Value} {P : List ScL} (hF : FreshSl h0 h v 51 4 (P.flatMap lnRow) P.length) : ∃ a c, v = .slice a P.length c /\ RowsAt 4 ScLR h a P := by
  rcases hF with ⟨rfl, _, h0⟩ | ⟨b, sp, op, rfl, hg, _⟩
  · rw [h0]
    exact ⟨none, 0, rfl, fun i hi => absurd hi (by omega)⟩
  · refine ⟨some ⟨b, 0, sp⟩, P.length, rfl, fun i hi => ⟨b, 0, sp, rfl, _, rowAt_cells hg ?_, rfl⟩⟩
    rw [Nat.zero_add]
    exact cut_flat (f := lnRow) (k := 4) hi fun _ _ => rfl
def HsAt (h : Heap) (b : Nat) (t : ScT) (gr : List ScL) : Prop := ∃ row ag cg vw, ScTAt h row t /\ h.get b = some (.cells (row ++ [.slice ag gr.length cg, vw]) 147 false) /\ RowsAt 4 ScLR h ag gr
theorem goG_take {t : ScT} {home : Int} : ∀ {l : List ScL} {k : Nat} {at' : Int} {fr : Option Int} (hk : k < l.length), goG t home none l = goG t at' fr (l.drop k) -> goG t home none l = if stopG t at' fr l[k] = true then none else goG t (venLand t l[k].venue) (some l[k].days.hi) (l.drop (k + 1)) := by
  intro l k at' fr hk h
  rw [h, List.drop_eq_getElem_cons hk, goG]
theorem grants_sv {b : Nat} {t : ScT} {gr : List ScL} {x : ScL} {lr : List Value} {h : Heap} (hH : HsAt h b t gr) (hO : ScOk t) (hgr : ∀ y ∈ gr, loanErr t y = 0) (hlen : gr.length <= 30) (hx : loanErr t x = 0) (hr : ScLR h lr x) :
    Sv Tryz.prog 139 [.pointer (some ⟨b, 0, none⟩), .agg ⟨lr⟩] h (RetP fun v h' => v = .bool (grantS t gr x) /\ Ext h h') := by
  obtain ⟨row, ag, cg, vw, ht, hg, hG⟩ := hH
  obtain ⟨al, cl, at', ct, a1, c1, a2, c2, a3, c3, a4, c4, a5, c5, a6, c6, rfl, m1, m2, m3, m4, m5, m6, m7, m8⟩ := ht
  replace hg : h.get b = some (.cells [i64 t.first, .slice al t.lands.length cl, .slice at' t.travel.length ct, .slice a1 t.venues.length c1, .slice a2 t.rights.length c2, .slice a3 t.prints.length c3, .slice a4 t.packs.length c4, .slice a5 t.keys.length c5, .slice a6 t.loans.length c6, .slice ag gr.length cg, vw] 147 false) := hg
  obtain rfl := hr
  obtain ⟨⟨x1, x2⟩, ⟨x3, x4⟩, x5, x6, x7⟩ := ln_ok hx
  obtain ⟨y1, y2⟩ := home_ok hO x1 x2
  have q1 := hO.lands
  have q2 := hO.venues1
  have q3 := hO.prints1
  obtain ⟨tl1, tl2⟩ := trav_ok hO
  refine Sv_wf fun hw => ?_
  refine Sv_enter Tryz.func139 rfl (by rw [Tryz.ntmps139]; rfl) ?_; show Wc Tryz.prog ⟨139, 121, none⟩ _ _ _ _ _
  refine zy ?_
  refine Wo_box rfl rfl rfl fun h1 hE1 hW1 hg1 hn1 => ?_
  replace hg := hE1.get hg
  replace m2 := RowsAt.ext (R := ScTvR) (fun x y => ScTvR.ext x y) m2 hE1
  replace m3 := RowsAt.ext (R := ScVR) (fun x _ => x) m3 hE1
  replace m5 := RowsAt.ext (R := ScPR) (fun x y => ScPR.ext x y) m5 hE1
  replace hG := RowsAt.ext (R := ScLR) (fun x _ => x) hG hE1
  generalize h.nx = bx at *
  refine zy ?_
  refine Wo_bs rfl rfl Und.h Tsz.h Zr.h rfl rfl rfl rfl rfl fun h2 hE2 hW2 hg2 hn2 => ?_
  have hO2 : Own h1 h2 [slI h1 (.slice (some ⟨h1.nx, 0, none⟩) 1 1) 51 4 ([x].flatMap lnRow) 1] := (Own.nil h1 h1).newSl hW1 (Nat.le_refl _) hE2 (FreshSl.lit hg2 rfl (Nat.le_refl _))
  generalize (Value.slice (some ⟨h1.nx, 0, none⟩) 1 1) = v0 at *
  clear hg2 hn2
  have hgH2 := hE2.get hg
  refine zy ?_
  refine Wc_loop (fun (s : Nat × Value) m ds h' => ds = [] /\ s.1 <= gr.length /\ Ext h1 h' /\ Own h1 h' [slI h1 s.2 51 4 ((x :: (gr.take s.1).filter fun g => decide (g.print = x.print)).flatMap lnRow) (x :: (gr.take s.1).filter fun g => decide (g.print = x.print)).length] ∧
      AllK m [(0, .pointer (some ⟨b, 0, none⟩)), (3, .pointer (some ⟨bx, 0, none⟩)), (5, s.2), (19, .slice ag gr.length cg), (20, i64 gr.length), (21, i64 s.1)]) (fun s => gr.length - s.1) (0, v0) ?_ ?_
  · exact ⟨rfl, Nat.zero_le _, hE2, hO2, rfl, rfl, rfl, rfl, rfl, rfl, trivial⟩
  clear hO2 hE2 hW2
  rintro ⟨k, v⟩ m ds h3 ⟨rfl, hk, hE3, hO3, hall⟩
  simp only at hk hO3 hall
  have hg1' := hE3.get hg1
  refine Wc.le ?_ (Le.kn hall)
  refine zy ?_
  refine Wo_dec rfl rfl rfl rfl (A_lss rfl rfl) (fun h4 => ?_) (fun h4 => ?_)
  · have hk' : k < gr.length := by simpa using h4
    have htk : gr.take (k + 1) = gr.take k ++ [gr[k]] := by rw [List.take_add_one, List.getElem?_eq_getElem hk']; rfl
    obtain ⟨b', o, oa, rfl, row, hrow, hma⟩ := hG k hk'
    generalize hmk : gr[k] = y at *
    obtain rfl := hma
    have hrow3 := hE3.row hrow
    refine zy ?_
    refine Wo_do rfl rfl rfl rfl (A_ix Und.h Tsz.h rfl rfl) ?_
    refine zy ?_
    refine Wo_allocStore rfl rfl Zr.h Tsz.h rfl (fun _ => rfl) rfl rfl rfl fun h5 hE5 hW5 hg5 hn5 => ?_
    replace hE3 := hE3.trans hE5
    replace hO3 := hO3.ext hE5
    replace hg1' := hE5.get hg1'
    generalize h3.nx = by' at *
    refine zy ?_
    refine Wo_dec rfl rfl rfl rfl (A_eql rfl rfl) (fun h6 => ?_) (fun h6 => ?_)
    · have hfl : (gr.take (k + 1)).filter (fun g => decide (g.print = x.print)) = (gr.take k).filter (fun g => decide (g.print = x.print)) ++ [y] := by
        rw [htk, List.filter_append, List.filter_cons, if_pos (by simpa using h6)]; rfl
      have hbd : ((gr.take k).filter fun g => decide (g.print = x.print)).length <= 30 := by
        refine Nat.le_trans (List.length_filter_le _ _) ?_
        rw [List.length_take]; omega
      refine zy ?_
      refine Wo_bs rfl rfl Und.h Tsz.h Zr.h rfl rfl rfl rfl rfl fun h7 hE7 hW7 hg7 hn7 => ?_
      refine Wo_appendO (k := 1) (l := lnRow y) hW1 (hE3.trans hE7) rfl rfl rfl rfl rfl Und.h inferInstance rfl rfl (hO3.ext hE7) (asrc_row Und.h (by intro k; simp) (rowAt_cells hg7 rfl)) rfl rfl (by simp only [List.length_cons]; omega) (by simp only [List.length_cons]; omega) fun v8 h8 hW8 hO8 hE8 => ?_
      refine zy ?_
      refine ⟨(k + 1, v8), ?_, rfl, hk', hE8, ?_, rfl, rfl, rfl, rfl, rfl, rfl, trivial⟩
      · show gr.length - (k + 1) < gr.length - k; omega
      · simp only
        rw [hfl]
        simpa [List.flatMap_append] using hO8
    · have hfl : (gr.take (k + 1)).filter (fun g => decide (g.print = x.print)) = (gr.take k).filter (fun g => decide (g.print = x.print)) := by
        rw [htk, List.filter_append, List.filter_cons, if_neg (by simpa using h6)]; simp
      refine zy ?_
      refine ⟨(k + 1, v), ?_, rfl, hk', hE3, ?_, rfl, rfl, rfl, rfl, rfl, rfl, trivial⟩
      · show gr.length - (k + 1) < gr.length - k; omega
      · simp only
        rw [hfl]; exact hO3
  have hk2 : k = gr.length := by omega
  subst hk2
  rw [List.take_length] at hO3
  generalize hL : (x :: gr.filter fun g => decide (g.print = x.print)) = L at *
  have hLok : ∀ y ∈ L, loanErr t y = 0 := by
    rw [<- hL]
    intro y hy
    rcases List.mem_cons.1 hy with rfl | hy
    · exact hx
    · exact hgr y ((List.mem_filter.1 hy).1)
  have hLl : L.length <= 31 := by
    rw [<- hL, List.length_cons]
    have := List.length_filter_le (fun g : ScL => decide (g.print = x.print)) gr
    omega
  refine Wo_wf fun hw3 => ?_
  clear hall hk h4
  refine zy ?_
  refine Wo_callr rfl rfl rfl rfl rfl Bod.h rfl rfl (sortLoans_sv hO3.p1 (by omega) (fun p hp => by have := ln_ok (hLok p hp); omega)) ?_
  rintro _ h4 ⟨rfl, Q, hp, hs, hF, hX⟩
  have hQl : Q.length = L.length := hp.length_eq
  have hE4 := hO3.grows hX hE3 hW1
  have hQok : ∀ y ∈ Q, loanErr t y = 0 := fun y hy => hLok y (hp.subset hy)
  have hcan : grantS t gr x = canG t (homeG t x.print) Q := by
    unfold grantS
    refine canG_perm ((ofG_perm.trans (List.Perm.of_eq hL)).trans hp.symm) ofG_sorted hs fun y hy => ?_
    have := ln_ok (hLok y (by rw [<- hL]; exact ofG_perm.subset hy))
    omega
  rw [hcan]
  rw [<- hQl] at hF
  obtain ⟨aQ, cQ, rfl, hQ⟩ := lnRows_at hF
  have k1 := hE4.get hg
  have k2 := hE4.get hg1
  clear hO3 hE3 hg1' hp hs hF hX
  have n2 := RowsAt.ext (R := ScTvR) (fun x y => ScTvR.ext x y) m2 hE4
  have n3 := RowsAt.ext (R := ScVR) (fun x _ => x) m3 hE4
  have n5 := RowsAt.ext (R := ScPR) (fun x y => ScPR.ext x y) m5 hE4
  obtain ⟨bp, op, oap, rfl, hcp⟩ := home_at n5 x1 x2
  generalize hhm : homeG t x.print = hm at *
  refine zy ?_
  refine Wc_draw hmix [0, 1, 3, 7, 15, 31, 0, 64, 255, 511, 1023, 2047, 4095] [0, 1, 2, 3, 4, 5, 6, 7, 8, 9, 10] (some 11) [([], (some 12)), ([], none)] (by kernel_rfl) (by kernel_rfl) ?_
  refine z_m ?_; refine z_q ?_; refine z_f ?_; refine z_f ?_; refine z_f ?_; refine z_l ?_; refine z_f ?_; refine z_l ?_; refine Wp_pure rfl rfl rfl rfl rfl (fun _ => A_indexAddr (k := x.print.toNat) Und.h Tsz.h rfl rfl (by omega) (by omega)) ?_; refine z_f ?_; refine z_l ?_
  refine Wp_eff [0, 1, 2, 3, 4, 5, 6, 7, 8, 9, 10] (by kernel_rfl) rfl (Stl_nil rfl) rfl nb rfl (W1_op rfl rfl (A_assign rfl) ?_)
  refine Wp_eff [0, 1, 2, 3, 4, 5, 6, 7, 8, 9, 10, 11] (by kernel_rfl) rfl (Stl_nil rfl) rfl nb rfl (W1_op rfl rfl (A_assign rfl) ?_)
  refine Wp_end (Stl_nil rfl) nb' ?_
  refine zy ?_
  refine Wc_loop (fun (s : Nat × Int × Int) m ds h' => ds = [] /\ s.1 <= Q.length /\ Ext h1 h' /\ RowsAt 4 ScLR h' aQ Q /\ (0 <= s.2.1 /\ s.2.1 < t.lands.length) /\ (-1 <= s.2.2 /\ s.2.2 <= 80000) /\ goG t hm none Q = goG t s.2.1 (if s.1 = 0 then none else some s.2.2) (Q.drop s.1) ∧
      AllK m [(0, .pointer (some ⟨b, 0, none⟩)), (3, .pointer (some ⟨bx, 0, none⟩)), (8, i64 s.2.1), (9, i64 s.2.2), (48, .slice aQ Q.length cQ), (49, i64 Q.length), (50, i64 s.1)]) (fun s => Q.length - s.1) (0, hm, -1) ?_ ?_
  · exact ⟨rfl, Nat.zero_le _, hE4, hQ, ⟨y1, y2⟩, ⟨show (-1 : Int) <= -1 by decide, show (-1 : Int) <= 80000 by decide⟩, rfl, rfl, rfl, rfl, rfl, rfl, rfl, rfl, trivial⟩
  clear n2 n3 n5 k1 k2 hQ hcp
  clear hE4
  rintro ⟨k, at1, fr⟩ m ds h5 ⟨rfl, hk, hE5, hQ, ⟨z1, z2⟩, ⟨z3, z4⟩, hgo, hall⟩
  refine Wc_wf fun hw5 => ?_
  simp only at hk z1 z2 z3 z4 hgo hall
  have k1 := hE5.get hg
  have k2 := hE5.get hg1
  have n2 := RowsAt.ext (R := ScTvR) (fun x y => ScTvR.ext x y) m2 hE5
  have n3 := RowsAt.ext (R := ScVR) (fun x _ => x) m3 hE5
  refine Wc.le ?_ (Le.kn hall)
  refine zy ?_
  refine Wo_dec rfl rfl rfl rfl (A_lss rfl rfl) (fun h6 => ?_) (fun h6 => ?_)
  · have hk' : k < Q.length := by simpa using h6
    replace hgo := goG_take hk' hgo
    have hyk := hQok _ (List.getElem_mem hk')
    obtain ⟨bq, oq, oaq, rfl, row, hrow, hma⟩ := hQ k hk'
    generalize hmk : Q[k] = y at *
    obtain rfl := hma
    obtain ⟨⟨w1, w2⟩, ⟨w3, w4⟩, w5, w6, w7⟩ := ln_ok hyk
    obtain ⟨w8, w9⟩ := venLand_ok hO w3 w4
    refine zy ?_
    refine Wo_do rfl rfl rfl rfl (A_ix Und.h Tsz.h rfl rfl) ?_
    refine zy ?_
    refine Wo_alloc rfl rfl Zr.h fun h61 hE61 hW61 hg61 hn61 => ?_
    refine zy ?_
    refine Wo_store rfl Tsz.h rfl rfl hg61 rfl rfl rfl fun h7 hU7 => ?_
    have hE7 := hU7.ext hE61 hw5 (Nat.le_refl _)
    have hg7 := hU7.at'
    clear hU7 hg61 hn61 hW61 hE61
    replace hE5 := hE5.trans hE7
    replace k1 := hE7.get k1
    replace k2 := hE7.get k2
    replace n2 := RowsAt.ext (R := ScTvR) (fun x y => ScTvR.ext x y) n2 hE7
    replace n3 := RowsAt.ext (R := ScVR) (fun x _ => x) n3 hE7
    replace hQ := RowsAt.ext (R := ScLR) (fun x _ => x) hQ hE7
    generalize h5.nx = by' at *
    obtain ⟨bv, ov, oav, rfl, hcv⟩ := ven_at n3 w3 w4
    obtain ⟨bt, ot, oat, rfl, bt', ot', oat', ct', hct, hct', u1, u2, u3⟩ := trv_at hO n2 z1 z2 w8 w9
    generalize hvl : venLand t y.venue = vl at *
    generalize htr : trv t at1 vl = n at *
    have hst : stopG t at1 (if k = 0 then none else some fr) y = (decide (n < 0) || decide (0 < k /\ y.days.lo - fr <= n)) := by
      unfold stopG
      rw [hvl, htr]
      by_cases c : k = 0
      · simp [c]
      · rw [if_neg c]; simp [Nat.pos_of_ne_zero c]
    rw [hst] at hgo
    refine zy ?_
    refine Wc_draw hmix [0, 1, 3, 7, 15, 31, 0, 64, 255, 511, 1023, 2047] [0, 1, 2, 3, 4, 5, 6, 7, 8, 9, 10] (some 11) [([], none)] (by kernel_rfl) (by kernel_rfl) ?_
    refine z_m ?_; refine z_q ?_; refine z_f ?_; refine z_f ?_; refine z_f ?_; refine z_l ?_; refine z_f ?_; refine z_l ?_; refine Wp_pure rfl rfl rfl rfl rfl (fun _ => A_indexAddr (k := y.venue.toNat) Und.h Tsz.h rfl rfl (by omega) (by omega)) ?_; refine z_f ?_; refine z_l ?_
    refine Wp_eff [0, 1, 2, 3, 4, 5, 6, 7, 8, 9, 10] (by kernel_rfl) rfl (Stl_nil rfl) rfl nb rfl (W1_op rfl rfl (A_assign rfl) ?_)
    refine Wp_end (Stl_nil rfl) nb' ?_
    refine zy ?_
    refine Wo_do rfl rfl rfl rfl (A_indexAddr (k := at1.toNat) Und.h Tsz.h rfl rfl (by omega) (by omega)) ?_
    refine zy ?_
    refine Wo_do rfl rfl rfl rfl (A_indexAddr (k := vl.toNat) Und.h Tsz.h rfl rfl (by omega) (by omega)) ?_
    refine zy ?_
    refine Wo_dec rfl rfl rfl rfl (A_lss rfl rfl) (fun h8 => ?_) (fun h8 => ?_)
    · refine zy ?_
      refine Wc_ret (Lv_ret rfl ⟨?_, hE1.trans hE5⟩)
      rw [decide_eq_true h8, Bool.true_or, if_pos rfl] at hgo
      unfold canG; rw [hgo]; rfl
    refine zy ?_
    refine Wo_dec rfl rfl rfl rfl (A_gtr rfl rfl) (fun h9 => ?_) (fun h9 => ?_)
    · refine zy ?_
      refine Wo_dec rfl rfl rfl rfl (A_leq rfl rfl) (fun h10 => ?_) (fun h10 => ?_)
      · refine zy ?_
        refine Wc_ret (Lv_ret rfl ⟨?_, hE1.trans hE5⟩)
        rw [decide_eq_true (show 0 < k /\ y.days.lo - fr <= n from ⟨by omega, h10⟩), Bool.or_true, if_pos rfl] at hgo
        unfold canG; rw [hgo]; rfl
      rw [decide_eq_false h8, decide_eq_false (fun e => h10 e.2), Bool.or_false, if_neg (by decide)] at hgo
      refine zy ?_
      refine Wc_draw hmix [0, 0, 2, 6, 1, 31] [0, 1, 2, 3] (some 4) [([], (some 5)), ([], none)] (by kernel_rfl) (by kernel_rfl) ?_
      refine z_m ?_; refine z_f ?_; refine z_f ?_; refine z_l ?_
      refine Wp_eff [0] (by kernel_rfl) rfl (Stl_nil rfl) rfl nb rfl (W1_op rfl rfl (A_assign rfl) ?_)
      refine Wp_eff [0, 1, 2, 3, 4] (by kernel_rfl) rfl (by refine t_l 3 ?_; refine t_f 2 ?_; refine t_f 1 ?_; exact Stl_nil rfl) rfl nb rfl (W1_op rfl rfl (A_assign rfl) ?_)
      refine Wp_end (Stl_nil rfl) nb' ?_
      refine zy ?_
      refine ⟨(k + 1, vl, y.days.hi), ?_, rfl, hk', hE5, hQ, ⟨w8, w9⟩, ⟨by show -1 <= y.days.hi; omega, w7⟩, hgo, rfl, rfl, rfl, rfl, rfl, rfl, rfl, trivial⟩
      show Q.length - (k + 1) < Q.length - k; omega
    · rw [decide_eq_false h8, decide_eq_false (fun e => h9 (by omega)), Bool.or_false, if_neg (by decide)] at hgo
      refine zy ?_
      refine Wc_draw hmix [0, 0, 2, 6, 1, 31] [0, 1, 2, 3] (some 4) [([], (some 5)), ([], none)] (by kernel_rfl) (by kernel_rfl) ?_
      refine z_m ?_; refine z_f ?_; refine z_f ?_; refine z_l ?_
      refine Wp_eff [0] (by kernel_rfl) rfl (Stl_nil rfl) rfl nb rfl (W1_op rfl rfl (A_assign rfl) ?_)
      refine Wp_eff [0, 1, 2, 3, 4] (by kernel_rfl) rfl (by refine t_l 3 ?_; refine t_f 2 ?_; refine t_f 1 ?_; exact Stl_nil rfl) rfl nb rfl (W1_op rfl rfl (A_assign rfl) ?_)
      refine Wp_end (Stl_nil rfl) nb' ?_
      refine zy ?_
      refine ⟨(k + 1, vl, y.days.hi), ?_, rfl, hk', hE5, hQ, ⟨w8, w9⟩, ⟨by show -1 <= y.days.hi; omega, w7⟩, hgo, rfl, rfl, rfl, rfl, rfl, rfl, rfl, trivial⟩
      show Q.length - (k + 1) < Q.length - k; omega
  have hk2 : k = Q.length := by omega
  rw [hk2, List.drop_length, goG] at hgo
  have hfin : canG t hm Q = decide (0 <= trv t at1 hm) := by unfold canG; rw [hgo]
  rw [hfin]
  have n5 := RowsAt.ext (R := ScPR) (fun x y => ScPR.ext x y) m5 hE5
  obtain ⟨bp', op', oap', e', hcp⟩ := home_at n5 x1 x2
  cases e'
  rw [hhm] at hcp
  obtain ⟨bt, ot, oat, rfl, bt', ot', oat', ct', hct, hct', u1, u2, u3⟩ := trv_at hO n2 z1 z2 y1 y2
  generalize htr : trv t at1 hm = n at *
  refine zy ?_
  refine Wc_draw hmix [0, 1, 3, 7, 15, 31, 0, 127, 255, 0, 512, 1536, 3584, 7680, 15872, 0, 32768, 130560, 261632, 523776, 1048575, 2097151, 4194303, 8388607] [0, 1, 2, 3, 4, 5, 6, 7, 8, 9, 10, 11, 12, 13, 14, 15, 16, 17, 18, 19, 20, 21, 22] (some 23) [([], none)] (by kernel_rfl) (by kernel_rfl) ?_
  refine z_m ?_; refine z_q ?_; refine z_f ?_; refine z_f ?_; refine z_f ?_; refine z_l ?_; refine z_m ?_; refine Wp_pure rfl rfl rfl rfl rfl (fun _ => A_indexAddr (k := at1.toNat) Und.h Tsz.h rfl rfl (by omega) (by omega)) ?_; refine z_l ?_; refine z_m ?_; refine z_q ?_; refine z_f ?_; refine z_f ?_; refine z_f ?_; refine z_l ?_; refine z_f ?_; refine z_l ?_; refine Wp_pure rfl rfl rfl rfl rfl (fun _ => A_indexAddr (k := x.print.toNat) Und.h Tsz.h rfl rfl (by omega) (by omega)) ?_; refine z_f ?_; refine z_l ?_; refine Wp_pure rfl rfl rfl rfl rfl (fun _ => A_indexAddr (k := hm.toNat) Und.h Tsz.h rfl rfl (by omega) (by omega)) ?_; refine z_l ?_; refine Wp_pure rfl rfl rfl rfl rfl (fun _ => A_geq rfl rfl) ?_
  refine Wp_eff [0, 1, 2, 3, 4, 5, 6, 7, 8, 9, 10, 11, 12, 13, 14, 15, 16, 17, 18, 19, 20, 21, 22] (by kernel_rfl) rfl (Stl_nil rfl) rfl nb rfl (W1_op rfl rfl (A_assign rfl) ?_)
  refine Wp_end (Stl_nil rfl) nb' ?_
  refine zy ?_
  exact Wc_ret (Lv_ret rfl ⟨rfl, hE1.trans hE5⟩)
end Go.Dw
/- G7: contracts: screen.open, screen.Loans. -/
namespace Go.Dw
open Go Go.Dx Go.Proofs
set_option maxRecDepth 100000
def lpre (t : ScT) (k : Nat) : List ScL × List Int := (t.loans.take k).foldl (fun s x => if grantS t s.1 x = true then (s.1 ++ [x], s.2 ++ [0]) else (s.1, s.2 ++ [210])) ([], [])
theorem lpre_all (t : ScT) : lpre t t.loans.length = loansS t := by unfold lpre loansS; rw [List.take_length]
theorem lpre_succ {t : ScT} {k : Nat} (hk : k < t.loans.length) : lpre t (k + 1) = if grantS t (lpre t k).1 t.loans[k] = true then ((lpre t k).1 ++ [t.loans[k]], (lpre t k).2 ++ [0]) else ((lpre t k).1, (lpre t k).2 ++ [210]) := by
  unfold lpre
  have : t.loans.take (k + 1) = t.loans.take k ++ [t.loans[k]] := by rw [List.take_add_one, List.getElem?_eq_getElem hk]; rfl
  rw [this, List.foldl_append]; rfl
theorem lpre_ok {t : ScT} (hO : ScOk t) : ∀ {k : Nat}, k <= t.loans.length -> (∀ y ∈ (lpre t k).1, loanErr t y = 0) /\ (lpre t k).1.length <= k /\ (lpre t k).2.length = k
  | 0, _ => ⟨(fun _ h => nomatch h), Nat.le_refl _, rfl⟩
  | k + 1, hk => by
    obtain ⟨h1, h2, h3⟩ := lpre_ok hO (k := k) (by omega)
    rw [lpre_succ (by omega)]
    split
    · refine ⟨fun y hy => ?_, by simp; omega, by simp; omega⟩
      rcases List.mem_append.1 hy with g | g
      · exact h1 y g
      · rw [List.mem_singleton.1 g]; exact hO.loans _ (List.getElem_mem _)
    · exact ⟨h1, Nat.le_succ_of_le h2, by simp; omega⟩
def HouseAt (h : Heap) (b : Nat) (t : ScT) : Prop := ∃ row ag cg aw cw, ScTAt h row t /\ h.get b = some (.cells (row ++ [.slice ag (loansS t).1.length cg, .slice aw (loansS t).2.length cw]) 147 false) /\ RowsAt 4 ScLR h ag (loansS t).1 /\ IntsAt h aw (loansS t).2
theorem HouseAt.ext {h h' : Heap} {b : Nat} {t : ScT} (a : HouseAt h b t) (he : Ext h h') : HouseAt h' b t := by
  obtain ⟨row, ag, cg, aw, cw, h1, h2, h3, h4⟩ := a
  exact ⟨row, ag, cg, aw, cw, h1.ext he, he.get h2, RowsAt.ext (R := ScLR) (fun x _ => x) h3 he, h4.ext he⟩
def OpenR (t : ScT) (h : Heap) (v : Value) (h' : Heap) : Prop := Ext h h' /\ ((¬ errSc t = 0 /\ v = .tuple ⟨[.pointer none, i64 (errSc t)]⟩) \/ (errSc t = 0 /\ ∃ b, v = .tuple ⟨[.pointer (some ⟨b, 0, none⟩), i64 0]⟩ /\ HouseAt h' b t))
theorem fill11 (x0 x1 x2 x3 x4 x5 x6 x7 x8 : Value) :
    Instr.fill ([(0, 9), (9, 1), (10, 1)].toArray[·]?) (Value.agg ⟨[i64 0, .slice none 0 0, .slice none 0 0, .slice none 0 0, .slice none 0 0, .slice none 0 0, .slice none 0 0, .slice none 0 0, .slice none 0 0, .slice none 0 0, .slice none 0 0]⟩).cells [(0, .agg ⟨[x0, x1, x2, x3, x4, x5, x6, x7, x8]⟩)] = some ⟨[x0, x1, x2, x3, x4, x5, x6, x7, x8, .slice none 0 0, .slice none 0 0]⟩ := by kernel_rfl
set_option maxHeartbeats 1000000 in
theorem open_sv {tc : List Value} {t : ScT} {h : Heap} (ht : ScTAt h tc t) (hT : t.Fit) : Sv Tryz.prog 83 [.agg ⟨tc⟩] h (RetP (OpenR t h)) := by
  have ht0 := ht
  obtain ⟨al, cl, at', ct, a1, c1, a2, c2, a3, c3, a4, c4, a5, c5, a6, c6, rfl, -, -, -, -, -, -, -, m8⟩ := ht
  refine Sv_wf fun hw => ?_
  refine Sv_enter Tryz.func83 rfl (by rw [Tryz.ntmps83]; rfl) ?_; show Wc Tryz.prog ⟨83, 63, none⟩ _ _ _ _ _
  refine zy ?_
  refine Wo_box rfl rfl rfl fun h1 hE1 hW1 hg1 hn1 => ?_
  generalize h.nx = b1 at *
  refine zy ?_
  refine Wo_callE rfl rfl rfl rfl rfl Bod.h rfl rfl (scCheck_sv (ht0.ext hE1) hT) fun h2 hE2 => ?_
  replace hg1 := hE2.get hg1
  replace hE1 := hE1.trans hE2
  refine zy ?_
  refine Wo_dec rfl rfl rfl rfl (A_neq rfl rfl) (fun h3 => ?_) (fun h3 => ?_)
  · refine zy ?_
    exact Wc_ret (Lv_ret rfl ⟨hE1, .inl ⟨h3, rfl⟩⟩)
  replace h3 : errSc t = 0 := Decidable.not_not.1 h3
  have hO := sc_ok h3
  have hll := hO.loans1
  refine Wo_wf fun hw2 => ?_
  clear hW1 hE2 hn1
  clear h1
  replace m8 := RowsAt.ext (R := ScLR) (fun x _ => x) m8 hE1
  replace ht0 := ht0.ext hE1
  refine zz ?_
  refine Wo_do rfl rfl rfl rfl (A_build rfl (fill9 _ _ _ _ _ _ _ _ _)) ?_
  refine Wo_do rfl rfl rfl rfl (A_build rfl (fill11 _ _ _ _ _ _ _ _ _)) ?_
  refine Wo_box rfl rfl rfl fun h4 hE4 hW4 hg4 hn4 => ?_
  have hO4 := (((Own.nil h2 h2).nilSl 32 1).nilSl 51 4).newCe hw2 (Nat.le_refl _) hE4 hg4 (Nat.le_refl _)
  generalize h2.nx = bH at *
  replace hg1 := hE4.get hg1
  clear hg4 hn4
  refine zy ?_
  refine Wc_loop (fun (s : Nat × Value × Value) m ds h' => ds = [] /\ s.1 <= t.loans.length /\ Ext h2 h' /\ Own h2 h' [ceI bH [i64 t.first, .slice al t.lands.length cl, .slice at' t.travel.length ct, .slice a1 t.venues.length c1, .slice a2 t.rights.length c2, .slice a3 t.prints.length c3, .slice a4 t.packs.length c4, .slice a5 t.keys.length c5, .slice a6 t.loans.length c6, s.2.1, s.2.2] 147 false, slI h2 s.2.1 51 4 ((lpre t s.1).1.flatMap lnRow) (lpre t s.1).1.length, slI h2 s.2.2 32 1 ((lpre t s.1).2.map i64) (lpre t s.1).2.length] ∧
      AllK m [(7, .pointer (some ⟨bH, 0, none⟩)), (24, .slice a6 t.loans.length c6), (25, i64 t.loans.length), (26, i64 s.1)]) (fun s => t.loans.length - s.1) (0, .slice none 0 0, .slice none 0 0) ?_ ?_
  · exact ⟨rfl, Nat.zero_le _, hE4, hO4, rfl, rfl, rfl, rfl, trivial⟩
  clear hO4 hE4 hW4 hg1
  clear h4
  rintro ⟨k, vg, vw⟩ m ds h5 ⟨rfl, hk, hE5, hO5, hall⟩
  simp only at hk hO5 hall
  obtain ⟨p1, p2, p3⟩ := lpre_ok hO hk
  refine Wc_wf fun hw5 => ?_
  refine Wc.le ?_ (Le.kn hall)
  refine zy ?_
  refine Wo_dec rfl rfl rfl rfl (A_lss rfl rfl) (fun h6 => ?_) (fun h6 => ?_)
  · have hk' : k < t.loans.length := by simpa using h6
    have hls := lpre_succ hk'
    have hxok := hO.loans _ (List.getElem_mem hk')
    obtain ⟨b', o, oa, rfl, row, hrow, hma⟩ := m8 k hk'
    generalize hmk : t.loans[k] = x at *
    obtain rfl := hma
    have hrow5 := hE5.row hrow
    generalize hG : (lpre t k).1 = G at *
    generalize hW : (lpre t k).2 = W at *
    refine zy ?_
    refine Wo_do rfl rfl rfl rfl (A_ix Und.h Tsz.h rfl rfl) ?_
    refine zy ?_
    refine Wo_allocStore rfl rfl Zr.h Tsz.h rfl (fun _ => rfl) rfl rfl rfl fun h7 hE7 hW7 hg7 hn7 => ?_
    replace hE5 := hE5.trans hE7
    replace hO5 := hO5.ext hE7
    generalize h5.nx = bl at *
    obtain ⟨ag, cg, rfl, hGr⟩ := lnRows_at (show FreshSl h2 h7 vg 51 4 _ _ from hO5.at 1 rfl)
    refine zy ?_
    refine Wo_callB rfl rfl rfl rfl rfl Bod.h rfl rfl (grants_sv ⟨_, ag, cg, vw, ht0.ext hE5, hO5.p1, hGr⟩ hO p1 (by omega) hxok rfl) (fun h8 h9 hE9 => ?_) (fun h8 h9 hE9 => ?_)
    · rw [if_pos h8] at hls
      have hgl : (G ++ [x]).length = G.length + 1 := by simp
      have hgm : (G ++ [x]).flatMap lnRow = G.flatMap lnRow ++ lnRow x := by simp [List.flatMap_append]
      have hwl : (W ++ [(0 : Int)]).length = W.length + 1 := by simp
      have hwm : (W ++ [(0 : Int)]).map i64 = W.map i64 ++ [i64 0] := by simp
      replace hE5 := hE5.trans hE9
      replace hO5 := hO5.ext hE9
      replace hg7 := hE9.get hg7
      refine Wo_wf fun hw9 => ?_
      have hEa : Ext h9 (rsv (Heap.add h9 (.cells (lnRow x) 51 false))) := (Ext.add hw9 _).trans (Ext.rsv _)
      have hO9 := hO5.pick 1 rfl
      have hne := hO9.ne hw9 (Nat.le_succ h9.nx)
      have hn9 := hE5.2.1
      have kH : h9.get bH = _ := hO5.p1
      have kHa := hEa.get kH
      refine zy ?_
      refine Wc_draw hmix [0, 0, 0, 4, 12, 28, 0, 64, 252, 0, 512, 1536, 3584, 0, 16380, 32765, 65533, 131069, 262143, 524287, 1048575] [0, 1, 2, 3, 4, 5, 6, 7, 9, 10, 11, 12, 13] (some 8) [([], (some 14)), ([15, 16], (some 17)), ([18, 19], (some 20)), ([], none)] (by kernel_rfl) (by kernel_rfl) ?_
      refine z_m ?_; refine z_m ?_; refine z_m ?_; refine z_q ?_; refine z_f ?_; refine z_l ?_; refine z_r ?_
      refine Wp_new (nk := .sl _ _) rfl rfl rfl rfl rfl (fun _ _ hs => N_bs hs Und.h Tsz.h Zr.h rfl rfl rfl rfl rfl) ?_
      refine z_m ?_; refine z_q ?_; refine z_f ?_; refine z_l ?_
      refine Wp_new (nk := .sl _ _) rfl rfl rfl rfl rfl (fun _ _ hs => N_bs hs Und.h Tsz.h Zr.h rfl rfl rfl rfl rfl) ?_
      refine Wp_eff (h1 := (rsv (Heap.add h9 _))) [2, 3, 4, 5, 6, 7] (by kernel_rfl) rfl (Stl_nil rfl) rfl rfl rfl (W1_wfK (W1_appendR (n1 := h9.nx + 1) (by' := 32) (sz := 4) (k := 1) (n := G.length) (l := lnRow x) rfl hw2 (hE5.trans hEa) rfl rfl rfl rfl Und.h inferInstance rfl rfl (hO9.ext hEa) ((FreshSl.lit (h0 := h2) (n := 1) (sz := 4) ((Ext.rsv _).get Heap.get_add_same) rfl hn9).src (dd := .slice 51) Und.h (by intro k; simp)) rfl rfl (by omega) (by omega) hne (Nat.lt_succ_self _) (fun v12 h12 hO13 hE12 hne12 hn12 hw12 => ?_)))
      have hU12 := Upd.mk' h12 (h9.nx + 1) (.cells [i64 0] 32 false)
      have hO13' := hO13.other (.cells [i64 0] 32 false) hne12
      have hE12' := hU12.ext hE12 hw2 (Nat.le_succ_of_le hn9)
      rw [<- hgl, <- hgm] at hO13'
      have hO14 := hO13'.unpick 1 (Nat.le_of_ble_eq_true rfl)
      have kH12 : h12.get bH = _ := hO13.p2
      have kH13 : (h12.set (h9.nx + 1) (.cells [i64 0] 32 false)).get bH = _ := hO13'.p2
      refine Wp_eff (h1 := (h12.set (h9.nx + 1) (.cells [i64 0] 32 false))) [2, 3, 4, 5, 6, 7, 8, 9, 10, 11, 12, 13] (by kernel_rfl) rfl (by refine Stl_new (i := 13) (nk := .sl _ _) rfl rfl rfl rfl rfl (fun _ _ hs => N_bs hs Und.h Tsz.h Zr.h rfl rfl rfl rfl rfl) rfl ?_; refine t_l 12 ?_; refine t_f 11 ?_; refine t_q 10 ?_; refine t_m 9 ?_; refine t_m 1 ?_; refine t_m 0 ?_; exact Stl_nil rfl) rfl rfl rfl (W1_wfK (W1_appendO (by' := 8) (sz := 1) (k := 1) (n := W.length) (l := [i64 0]) rfl hw2 hE12' rfl rfl rfl rfl Und.h inferInstance rfl rfl (hO14.pick 2 rfl) ((FreshSl.lit (h0 := h2) (n := 1) (sz := 1) hU12.at' rfl (Nat.le_succ_of_le hn9)).src (dd := .slice 32) Und.h (by intro k; simp)) rfl rfl (by omega) (by omega) (fun v14 h14 hO15 hE14 hw14 => ?_)))
      rw [<- hwl, <- hwm] at hO15
      have hO16 := hO15.unpick 2 (Nat.le_of_ble_eq_true rfl)
      obtain ⟨bu, spu, rfl⟩ := sl_shape (show FreshSl h2 h14 v12 51 4 _ _ from hO16.at 1 rfl) (by rw [hgl]; exact Nat.succ_pos _)
      obtain ⟨bv, spv, rfl⟩ := sl_shape (show FreshSl h2 h14 v14 32 1 _ _ from hO16.at 2 rfl) (by rw [hwl]; exact Nat.succ_pos _)
      refine z_q ?_; refine z_f ?_
      refine Wp_eff (h1 := h14) [0, 2, 3, 4, 5, 6, 7, 8, 9, 10, 11, 12, 13, 14, 15, 16] (by kernel_rfl) rfl (by refine t_m 1 ?_; refine t_m 0 ?_; exact Stl_nil rfl) rfl rfl rfl (W1_wfK (W1_storeO rfl hw2 hE14 rfl Tsz.h rfl rfl hO16 rfl rfl rfl (fun h15 hO17 hE15 hw15 => ?_)))
      refine z_q ?_; refine z_f ?_
      refine Wp_eff (h1 := h15) [0, 1, 2, 3, 4, 5, 6, 7, 8, 9, 10, 11, 12, 13, 14, 15, 16, 17, 18, 19] (by kernel_rfl) rfl (by refine t_m 1 ?_; exact Stl_nil rfl) rfl rfl rfl (W1_wfK (W1_storeO rfl hw2 hE15 rfl Tsz.h rfl rfl hO17 rfl rfl rfl (fun h16 hO18 hE16 hw16 => ?_)))
      refine Wp_end (h1 := h16) (Stl_nil rfl) rfl ?_
      refine zy ?_
      refine ⟨(k + 1, .slice (some ⟨bu, 0, spu⟩) (G ++ [x]).length (G ++ [x]).length, .slice (some ⟨bv, 0, spv⟩) (W ++ [(0 : Int)]).length (W ++ [(0 : Int)]).length), ?_, rfl, hk', hE16, ?_, rfl, rfl, rfl, rfl, trivial⟩
      · show t.loans.length - (k + 1) < t.loans.length - k; omega
      · simp only [hls]; exact hO18
    · rw [if_neg (by rw [h8]; simp)] at hls
      have hwl : (W ++ [(210 : Int)]).length = W.length + 1 := by simp
      have hwm : (W ++ [(210 : Int)]).map i64 = W.map i64 ++ [i64 210] := by simp
      replace hE5 := hE5.trans hE9
      replace hO5 := hO5.ext hE9
      have kH : h9.get bH = _ := hO5.p1
      refine zy ?_
      refine Wo_bs rfl rfl Und.h Tsz.h Zr.h rfl rfl rfl rfl rfl fun h12 hE12 hW12 hg12 hn12 => ?_
      refine Wo_appendO (k := 1) (l := [i64 210]) hw2 (hE5.trans hE12) rfl rfl rfl rfl rfl Und.h inferInstance rfl rfl ((hO5.ext hE12).pick 2 rfl) (asrc_row Und.h (by intro k; simp) (rowAt_cells hg12 rfl)) rfl rfl (by omega) (by omega) fun v13 h13 hW13 hO13 hE13 => ?_
      rw [<- hwl, <- hwm] at hO13
      have hO16 := hO13.unpick 2 (Nat.le_of_ble_eq_true rfl)
      obtain ⟨bv, spv, rfl⟩ := sl_shape (show FreshSl h2 h13 v13 32 1 _ _ from hO16.at 2 rfl) (by rw [hwl]; exact Nat.succ_pos _)
      refine zy ?_
      refine Wo_storeO hw2 hE13 rfl Tsz.h rfl rfl hO16 rfl rfl rfl fun h16 hW16 hO18 hE16 => ?_
      refine zy ?_
      refine ⟨(k + 1, .slice ag G.length cg, .slice (some ⟨bv, 0, spv⟩) (W ++ [(210 : Int)]).length (W ++ [(210 : Int)]).length), ?_, rfl, hk', hE16, ?_, rfl, rfl, rfl, rfl, trivial⟩
      · show t.loans.length - (k + 1) < t.loans.length - k; omega
      · simp only [hls]; exact hO18
  have hk2 : k = t.loans.length := by omega
  subst hk2
  rw [lpre_all] at hO5
  obtain ⟨ag, cg, rfl, hGr⟩ := lnRows_at (show FreshSl h2 h5 vg 51 4 _ _ from hO5.at 1 rfl)
  obtain ⟨aw, rfl, -, hWr⟩ := FreshSl.list (enc := i64) (show FreshSl h2 h5 vw 32 1 _ _ from hO5.at 2 rfl)
  refine zy ?_
  exact Wc_ret (Lv_ret rfl ⟨hE1.trans hE5, .inr ⟨h3, bH, rfl, _, ag, cg, aw, _, ht0.ext hE5, hO5.p1, hGr, hWr⟩⟩)
theorem scLoans_sv {tc : List Value} {t : ScT} {h : Heap} (ht : ScTAt h tc t) (hT : t.Fit) : Sv Tryz.prog 20 [.agg ⟨tc⟩] h (RetP fun v h' => Ext h h' /\ ((¬ errSc t = 0 /\ v = .tuple ⟨[.slice none 0 0, i64 (errSc t)]⟩) \/ (errSc t = 0 /\ ∃ a c, v = .tuple ⟨[.slice a (loansS t).2.length c, i64 0]⟩ /\ IntsAt h' a (loansS t).2))) := by
  have ht0 := ht
  obtain ⟨al, cl, at', ct, a1, c1, a2, c2, a3, c3, a4, c4, a5, c5, a6, c6, rfl, -⟩ := ht
  refine Sv_wf fun hw => ?_
  refine Sv_enter Tryz.func20 rfl (by rw [Tryz.ntmps20]; rfl) ?_; show Wc Tryz.prog ⟨20, 18, none⟩ _ _ _ _ _
  refine zy ?_
  refine Wo_box rfl rfl rfl fun h1 hE1 hW1 hg1 hn1 => ?_
  generalize h.nx = b1 at *
  refine zy ?_
  refine Wo_callr rfl rfl rfl rfl rfl Bod.h rfl rfl (open_sv (ht0.ext hE1) hT) ?_
  rintro v h2 ⟨hE2, ⟨he, rfl⟩ | ⟨he, b, rfl, hH⟩⟩
  · refine zy ?_
    refine Wo_dec rfl rfl rfl rfl (A_neq rfl rfl) (fun h3 => ?_) (fun h3 => ?_)
    · refine zy ?_
      exact Wc_ret (Lv_ret rfl ⟨hE1.trans hE2, .inl ⟨he, rfl⟩⟩)
    · exact absurd (Decidable.not_not.1 h3) he
  · obtain ⟨row, ag, cg, aw, cw, q1, q2, q3, q4⟩ := hH
    obtain ⟨al, cl, at', ct, a1, c1, a2, c2, a3, c3, a4, c4, a5, c5, a6, c6, rfl, -⟩ := q1
    refine zy ?_
    refine Wo_dec rfl rfl rfl rfl (A_neq rfl rfl) (fun h3 => ?_) (fun h3 => ?_)
    · exact absurd rfl h3
    refine zy ?_
    exact Wc_ret (Lv_ret rfl ⟨hE1.trans hE2, .inr ⟨he, aw, cw, rfl, q4⟩⟩)
end Go.Dw
/- G8: contracts: loans, package telecineref11. -/
namespace Go.Dw
open Go Go.Dx Go.Proofs
set_option maxRecDepth 100000
theorem lnRows_one : ∀ P : List ScL, allOne (P.flatMap lnRow) = true
  | [] => rfl
  | p :: P => by
    rw [List.flatMap_cons]
    show allOne (i64 p.print :: i64 p.venue :: i64 p.days.lo :: i64 p.days.hi :: P.flatMap lnRow) = true
    have := lnRows_one P
    simp only [allOne, List.all_cons] at this ⊢
    rw [this]; rfl
theorem flat_take (L : List ScL) {i : Nat} (hi : i <= L.length) : (L.flatMap lnRow).take (i * (3 + 1)) = (L.take i).flatMap lnRow := by
  have e : L.flatMap lnRow = (L.take i).flatMap lnRow ++ (L.drop i).flatMap lnRow := by rw [<- List.flatMap_append, List.take_append_drop]
  rw [e]
  exact List.take_left' (by rw [lnRows_len, List.length_take]; omega)
theorem flat_drop (L : List ScL) {i : Nat} (hi : i <= L.length) : (L.flatMap lnRow).drop (i * (3 + 1)) = (L.drop i).flatMap lnRow := by
  have e : L.flatMap lnRow = (L.take i).flatMap lnRow ++ (L.drop i).flatMap lnRow := by rw [<- List.flatMap_append, List.take_append_drop]
  rw [e]
  exact List.drop_left' (by rw [lnRows_len, List.length_take]; omega)
theorem badP_iff {t : ScT} {a b : ScL} {n : Int} (hn : trv t (vlG t a) (vlG t b) = n) : badP t a b ↔ n < 0 \/ b.days.lo - a.days.hi <= n := by unfold badP; rw [hn]
set_option maxHeartbeats 2000000 in
theorem away_sv {tc lr : List Value} {t : ScT} {gr : List ScL} {ag : Option Addr} {cg : Nat} {x : ScL} {h : Heap} (ht : ScTAt h tc t) (hG : RowsAt 4 ScLR h ag gr) (hO : ScOk t) (hgr : ∀ y ∈ gr, loanErr t y = 0) (hlen : gr.length <= 30) (hx : loanErr t x = 0) (hr : ScLR h lr x) :
    Sv Tryz.prog 140 [.agg ⟨tc⟩, .slice ag gr.length cg, .agg ⟨lr⟩] h (RetP fun v h' => v = .bool (!grantS t gr x) /\ Ext h h') := by
  obtain ⟨al, cl, at', ct, a1, c1, a2, c2, a3, c3, a4, c4, a5, c5, a6, c6, rfl, m1, m2, m3, m4, m5, m6, m7, m8⟩ := ht
  obtain rfl := hr
  obtain ⟨⟨x1, x2⟩, ⟨x3, x4⟩, x5, x6, x7⟩ := ln_ok hx
  obtain ⟨y1, y2⟩ := home_ok hO x1 x2
  have q1 := hO.lands
  have q2 := hO.venues1
  have q3 := hO.prints1
  obtain ⟨tl1, tl2⟩ := trav_ok hO
  refine Sv_wf fun hw => ?_
  refine Sv_enter Tryz.func140 rfl (by rw [Tryz.ntmps140]; rfl) ?_; show Wc Tryz.prog ⟨140, 164, none⟩ _ _ _ _ _
  refine zy ?_
  refine Wo_box rfl rfl rfl fun h0 hE0 hW0 hg0 hn0 => ?_
  refine Wo_box rfl rfl rfl fun h1 hE01 hW1 hg1 hn1 => ?_
  replace hg0 := hE01.get hg0
  have hE1 := hE0.trans hE01
  replace m2 := RowsAt.ext (R := ScTvR) (fun x y => ScTvR.ext x y) m2 hE1
  replace m3 := RowsAt.ext (R := ScVR) (fun x _ => x) m3 hE1
  replace m5 := RowsAt.ext (R := ScPR) (fun x y => ScPR.ext x y) m5 hE1
  replace hG := RowsAt.ext (R := ScLR) (fun x _ => x) hG hE1
  clear hW0 hn1 hn0
  generalize h.nx = bt at *
  generalize h0.nx = bx at *
  clear hE0 hE01
  clear h0
  refine zy ?_
  refine Wo_bs rfl rfl Und.h Tsz.h Zr.h rfl rfl rfl rfl rfl fun h2 hE2 hW2 hg2 hn2 => ?_
  have hO2 : Own h1 h2 [slI h1 (.slice (some ⟨h1.nx, 0, none⟩) 1 1) 51 4 ((ofGk gr x 0).flatMap lnRow) (ofGk gr x 0).length] := (Own.nil h1 h1).newSl hW1 (Nat.le_refl _) hE2 (FreshSl.lit hg2 rfl (Nat.le_refl _))
  generalize (Value.slice (some ⟨h1.nx, 0, none⟩) 1 1) = v0 at *
  clear hg2 hn2
  refine zy ?_
  refine Wc_loop (fun (s : Nat × Value) m ds h' => ds = [] /\ s.1 <= gr.length /\ Ext h1 h' /\ Own h1 h' [slI h1 s.2 51 4 ((ofGk gr x s.1).flatMap lnRow) (ofGk gr x s.1).length] ∧
      AllK m [(1, .slice ag gr.length cg), (3, .pointer (some ⟨bt, 0, none⟩)), (5, .pointer (some ⟨bx, 0, none⟩)), (7, s.2), (8, i64 s.1)]) (fun s => gr.length - s.1) (0, v0) ?_ ?_
  · exact ⟨rfl, Nat.zero_le _, hE2, hO2, rfl, rfl, rfl, rfl, rfl, trivial⟩
  clear hO2 hE2 hW2
  rintro ⟨k, v⟩ m ds h3 ⟨rfl, hk, hE3, hO3, hall⟩
  simp only at hk hO3 hall
  have k0 := hE3.get hg0
  have k1 := hE3.get hg1
  have hLn := ofGk_len (x := x) hk
  refine Wc.le ?_ (Le.kn hall)
  refine zy ?_
  refine Wo_dec rfl rfl rfl rfl (A_lss rfl rfl) (fun h4 => ?_) (fun h4 => ?_)
  · have hk' : k < gr.length := by simpa using h4
    have hgs := ofGk_succ (x := x) hk'
    obtain ⟨b', o, oa, rfl, row, hrow, hma⟩ := hG k hk'
    have hyok := hgr _ (List.getElem_mem hk')
    generalize hmk : gr[k] = y at *
    obtain rfl := hma
    have hrow3 := hE3.row hrow
    have hrow1 := hrow
    have hcp : cellAt h3 b' (o + k * 4 + 0) = some (i64 y.print) := cell_of_row hrow3 rfl
    refine zy ?_
    refine Wc_draw hmix [0, 0, 3, 7, 15, 0, 32, 127] [0, 1, 2, 3, 4, 5, 6, 7] none [] (by kernel_rfl) (by kernel_rfl) ?_
    refine z_m ?_; refine z_m ?_; refine z_i ?_; refine z_f ?_; refine z_l ?_; refine z_f ?_; refine z_l ?_
    refine Wp_dec rfl rfl rfl rfl rfl (fun _ => A_neq rfl rfl) (fun h5 => ?_) (fun h5 => ?_)
    · refine Wp_end (Stl_nil rfl) nb' ?_
      rw [if_neg h5] at hgs
      refine zy ?_
      refine ⟨(k + 1, v), ?_, rfl, hk', hE3, ?_, rfl, rfl, rfl, rfl, rfl, trivial⟩
      · show gr.length - (k + 1) < gr.length - k; omega
      · simp only [hgs]; exact hO3
    rw [if_pos (Decidable.not_not.1 h5)] at hgs
    refine Wp_end (Stl_nil rfl) nb' ?_
    generalize hL : ofGk gr x k = L at *
    have hclo : cellAt h3 b' (o + k * 4 + 2 + 0) = some (i64 y.days.lo) := cell_of_row (k := 2) hrow3 rfl
    obtain ⟨aL, cL, rfl, hLr⟩ := lnRows_at (show FreshSl h1 h3 v 51 4 _ _ from hO3.p1)
    refine zy ?_
    refine Wc.mono (Q := fun z m' ds' h' => z = .exit 2 /\ ds' = [] /\ h3 = h' /\ ∃ i, i <= L.length /\ (∀ j (hj : j < L.length), j < i -> L[j].days.lo < y.days.lo) /\ (∀ h : i < L.length, ¬ L[i].days.lo < y.days.lo) ∧
        AllK m' [(1, .slice (some ⟨b', o, oa⟩) gr.length cg), (3, .pointer (some ⟨bt, 0, none⟩)), (5, .pointer (some ⟨bx, 0, none⟩)), (7, .slice aL L.length cL), (8, i64 k), (9, i64 i)]) ?_ ?_
    · refine Wc_loop (fun (i : Nat) m ds h' => ds = [] /\ h3 = h' /\ i <= L.length /\ (∀ j (hj : j < L.length), j < i -> L[j].days.lo < y.days.lo) ∧
          AllK m [(1, .slice (some ⟨b', o, oa⟩) gr.length cg), (3, .pointer (some ⟨bt, 0, none⟩)), (5, .pointer (some ⟨bx, 0, none⟩)), (7, .slice aL L.length cL), (8, i64 k), (9, i64 i)]) (fun i => L.length - i) 0 ?_ ?_
      · exact ⟨rfl, rfl, Nat.zero_le _, (fun _ _ hj => by omega), rfl, rfl, rfl, rfl, rfl, rfl, trivial⟩
      clear hall
      rintro i m ds h' ⟨rfl, rfl, hi, hlo, hall⟩
      refine Wc.le ?_ (Le.kn hall)
      refine zy ?_
      by_cases h6 : i < L.length
      rotate_left
      · refine Wc_draw hmix [0, 0, 2, 7, 15, 31, 31, 127, 255, 511, 1023, 31, 31, 6175, 14367, 30751, 63519, 131071, 262143] [0, 1, 2, 3, 4, 5, 6, 7, 8, 9, 10, 11, 12, 13, 14, 15, 16, 17, 18] none [] (by kernel_rfl) (by kernel_rfl) ?_
        refine z_m ?_; refine z_m ?_; refine z_c ?_; refine Wp_pure rfl rfl rfl rfl rfl (fun _ => A_ff (by omega) (A_lss rfl rfl)) ?_; refine z_m ?_; refine g_m ?_; refine g_m ?_; refine g_i ?_; refine g_f ?_; refine g_f ?_; refine g_l ?_; refine g_m ?_; refine g_m ?_; refine g_i ?_; refine g_f ?_; refine g_f ?_; refine g_l ?_; refine z_o ?_; refine z_p ?_
        refine Wp_end (Stl_nil rfl) nb' ?_
        refine zy ?_
        exact ⟨rfl, rfl, rfl, i, hi, hlo, (fun h => absurd h h6), rfl, rfl, rfl, rfl, rfl, rfl, trivial⟩
      have hi' : i < L.length := h6
      obtain ⟨b2, o2, oa2, rfl, row2, hrow2, hma2⟩ := hLr i hi'
      obtain rfl := hma2
      have hc2 : cellAt h3 b2 (o2 + i * 4 + 2 + 0) = some (i64 L[i].days.lo) := cell_of_row (k := 2) hrow2 rfl
      refine Wc_draw hmix [0, 0, 2, 7, 15, 31, 31, 127, 255, 511, 1023, 31, 31, 6175, 14367, 30751, 63519, 131071, 262143] [0, 1, 2, 3, 4, 5, 6, 7, 8, 9, 10, 11, 12, 13, 14, 15, 16, 17, 18] none [] (by kernel_rfl) (by kernel_rfl) ?_
      refine z_m ?_; refine z_m ?_; refine z_c ?_; refine Wp_pure rfl rfl rfl rfl rfl (fun _ => A_tt (by omega) (A_lss rfl rfl)) ?_; refine z_m ?_; refine g_m ?_; refine g_m ?_; refine g_i ?_; refine g_f ?_; refine g_f ?_; refine g_l ?_; refine g_m ?_; refine g_m ?_; refine g_i ?_; refine g_f ?_; refine g_f ?_; refine g_l ?_
      refine Wp_dec rfl rfl rfl rfl rfl (fun _ => A_lss rfl rfl) (fun h7 => ?_) (fun h7 => ?_)
      · refine z_p ?_
        refine Wp_end (Stl_nil rfl) nb' ?_
        refine zy ?_
        refine ⟨i + 1, (by show L.length - (i + 1) < L.length - i; omega), rfl, rfl, hi', ?_, rfl, rfl, rfl, rfl, rfl, rfl, trivial⟩
        intro j hj hlt
        rcases Nat.lt_or_ge j i with g | g
        · exact hlo j hj g
        · have : j = i := by omega
          subst this; exact h7
      · refine z_p ?_
        refine Wp_end (Stl_nil rfl) nb' ?_
        refine zy ?_
        exact ⟨rfl, rfl, rfl, i, hi, hlo, (fun _ => h7), rfl, rfl, rfl, rfl, rfl, rfl, trivial⟩
    clear hall
    rintro _ m _ _ ⟨rfl, rfl, rfl, i, hi, hlo, hhi, hall⟩
    show Wc _ _ _ _ _ _ _
    refine Wc.le ?_ (Le.kn hall)
    have hins := insG_at hi hlo hhi
    rw [hins] at hgs
    have hF3 : FreshSl h1 h3 (.slice aL L.length cL) 51 (3 + 1) (L.flatMap lnRow) L.length := hO3.p1
    have hLpos : 0 < L.length := by omega
    obtain ⟨w1, hz1, hA1⟩ := A_freshToK (P := Tryz.prog) (ki := .i64) (t := 29) (tX := 29) (dd := .slice 51) hF3 hLpos Und.h Tsz.h Und.h (by intro k; simp) hi
    obtain ⟨w2, hz2, hA2⟩ := A_freshFromK (P := Tryz.prog) (ki := .i64) (t := 29) (tX := 29) (dd := .slice 51) hF3 hLpos Und.h Tsz.h Und.h (by intro k; simp) hi
    have hcut1 : (L.flatMap lnRow).take (i * (3 + 1)) = (L.take i).flatMap lnRow := flat_take _ hi
    have hcut2 : (L.flatMap lnRow).drop (i * (3 + 1)) = (L.drop i).flatMap lnRow := flat_drop _ hi
    rw [hcut1] at hz1
    rw [hcut2] at hz2
    have hti : (L.take i).length = i := by rw [List.length_take]; omega
    have hdi : (L.drop i).length = L.length - i := List.length_drop
    refine Wc_wf fun hw3 => ?_
    have hEa0 := Ext.add hw3 (.cells [] 51 false)
    have hEa := hEa0.trans (Ext.rsv (Heap.add h3 (.cells [] 51 false)))
    have hOa0 : Own h1 (Heap.add h3 (.cells [] 51 false)) [slI h1 (.slice (some ⟨h3.nx, 0, none⟩) 0 0) 51 4 [] 0, slI h1 (.slice aL L.length cL) 51 4 (L.flatMap lnRow) L.length] := hO3.newSl hw3 hE3.2.1 hEa0 (FreshSl.lit Heap.get_add_same rfl (Nat.le_refl _))
    have hne := hOa0.ne (hw3.add _) (Nat.le_refl (h3.nx + 1))
    have hn3 := hE3.2.1
    have hkk : gr.length <= 30 := hlen
    refine zy ?_
    refine Wc_draw hmix [0, 0, 0, 6, 15, 0, 0, 96, 224, 480, 1023, 0, 0, 6144, 16383, 32767] [0, 1, 2, 3, 5, 6, 7, 8, 9, 11, 12, 13] (some 4) [([], (some 10)), ([], (some 14)), ([], (some 15)), ([], none)] (by kernel_rfl) (by kernel_rfl) ?_
    refine Wp_new (nk := .sl _ _) rfl rfl rfl rfl rfl (fun _ _ hs => N_bs hs Und.h Tsz.h Zr.h rfl rfl rfl rfl rfl) ?_
    refine z_m ?_; refine z_m ?_; refine Wp_pure rfl rfl rfl rfl rfl (fun _ => hA1 rfl rfl) ?_; refine z_m ?_; refine z_m ?_; refine z_i ?_; refine z_r ?_
    refine Wp_new (nk := .sl _ _) rfl rfl rfl rfl rfl (fun _ _ hs => N_bs hs Und.h Tsz.h Zr.h rfl rfl rfl rfl rfl) ?_
    refine z_m ?_; refine z_m ?_; refine Wp_pure rfl rfl rfl rfl rfl (fun _ => hA2 rfl rfl) ?_
    refine Wp_eff (h1 := (rsv (Heap.add h3 _))) [0, 1, 2, 3] (by kernel_rfl) rfl (Stl_nil rfl) rfl rfl rfl (W1_wfK (W1_appendR (n1 := h3.nx + 1) (by' := 32) (sz := 4) (k := i) (n := 0) (l := (L.take i).flatMap lnRow) rfl hW1 (hE3.trans hEa) rfl rfl rfl rfl Und.h inferInstance rfl rfl (hOa0.ext (Ext.rsv _)) (hz1 _ h1 (hF3.ext hEa)) (by rw [lnRows_len, hti]) (lnRows_one _) (by omega) (by omega) hne (Nat.lt_succ_self _) (fun v12 h12 hO13 hE12 hne12 hn12 hw12 => ?_)))
    have hU12 := Upd.mk' h12 (h3.nx + 1) (.cells (lnRow y) 51 false)
    have hO13' := hO13.other (.cells (lnRow y) 51 false) hne12
    have hE12' := hU12.ext hE12 hW1 (Nat.le_succ_of_le hn3)
    have hrow12 := hE12.row hrow1
    have hrow12' := hE12'.row hrow1
    rw [List.nil_append, Nat.zero_add] at hO13'
    refine Wp_eff (h1 := (h12.set (h3.nx + 1) (.cells (lnRow y) 51 false))) [0, 1, 2, 3, 4, 5, 6, 7, 8, 9] (by kernel_rfl) rfl (by refine Stl_pure (i := 13) rfl rfl rfl rfl rfl (fun _ => hA2 rfl rfl) rfl ?_; refine t_m 12 ?_; refine t_m 11 ?_; refine Stl_new (i := 9) (nk := .sl _ _) rfl rfl rfl rfl rfl (fun _ _ hs => N_bs hs Und.h Tsz.h Zr.h rfl rfl rfl rfl rfl) rfl ?_; refine t_r 8 ?_; refine t_i 7 ?_; refine t_m 6 ?_; refine t_m 5 ?_; exact Stl_nil rfl) rfl rfl rfl (W1_wfK (W1_appendO (by' := 32) (sz := 4) (k := 1) (n := i) (l := lnRow y) rfl hW1 hE12' rfl rfl rfl rfl Und.h inferInstance rfl rfl hO13' ((FreshSl.lit (h0 := h1) (n := 1) (sz := 4) hU12.at' rfl (Nat.le_succ_of_le hn3)).src (dd := .slice 51) Und.h (by intro k; simp)) rfl rfl (by omega) (by omega) (fun v14 h14 hO15 hE14 hw14 => ?_)))
    have hF15 : FreshSl h1 h14 (.slice aL L.length cL) 51 (3 + 1) (L.flatMap lnRow) L.length := hO15.at 1 rfl
    refine Wp_eff (h1 := h14) [0, 1, 2, 3, 4, 5, 6, 7, 8, 9, 10, 11, 12, 13] (by kernel_rfl) rfl (by refine Stl_pure (i := 13) rfl rfl rfl rfl rfl (fun _ => hA2 rfl rfl) rfl ?_; refine t_m 12 ?_; refine t_m 11 ?_; exact Stl_nil rfl) rfl rfl rfl (W1_wfK (W1_appendO (by' := 32) (sz := 4) (k := L.length - i) (n := i + 1) (l := (L.drop i).flatMap lnRow) rfl hW1 hE14 rfl rfl rfl rfl Und.h inferInstance rfl rfl hO15 (hz2 _ h1 hF15) (by rw [lnRows_len, hdi]) (lnRows_one _) (by omega) (by omega) (fun v16 h16 hO17 hE16 hw16 => ?_)))
    refine Wp_eff (h1 := h16) [0, 1, 2, 3, 4, 5, 6, 7, 8, 9, 10, 11, 12, 13, 14] (by kernel_rfl) rfl (Stl_nil rfl) rfl rfl rfl (W1_op rfl rfl (A_assign rfl) ?_)
    refine Wp_end (h1 := h16) (Stl_nil rfl) rfl ?_
    refine zy ?_
    refine ⟨(k + 1, v16), ?_, rfl, hk', hE16, ?_, rfl, rfl, rfl, rfl, rfl, trivial⟩
    · show gr.length - (k + 1) < gr.length - k; omega
    · have e1 : (ofGk gr x (k + 1)).flatMap lnRow = (L.take i).flatMap lnRow ++ lnRow y ++ (L.drop i).flatMap lnRow := by rw [hgs, List.flatMap_append, List.flatMap_cons, List.append_assoc]
      have e2 : (ofGk gr x (k + 1)).length = i + 1 + (L.length - i) := by rw [hgs, List.length_append, List.length_cons, hti, hdi]; omega
      rw [e1, e2]
      exact hO17.sub (.cons_cons _ (List.nil_sublist _))
  have hk2 : k = gr.length := by omega
  subst hk2
  have hL0 : ofGk gr x gr.length = ofG gr x := by unfold ofGk; rw [List.take_length]
  rw [hL0] at hO3 hLn
  have hgS : grantS t gr x = canG t (homeG t x.print) (ofG gr x) := rfl
  have hLok : ∀ y ∈ ofG gr x, loanErr t y = 0 := fun y hy => by
    rw [<- hL0] at hy
    rcases ofGk_mem y hy with e | g
    · rw [e]; exact hx
    · exact hgr y g
  rw [hgS]
  clear hgS hL0 hall
  generalize ofG gr x = L at *
  obtain ⟨aL, cL, rfl, hLr⟩ := lnRows_at (show FreshSl h1 h3 v 51 4 _ _ from hO3.p1)
  have hpos : 0 < L.length := by omega
  have hiff := away_iff (t := t) (home := homeG t x.print) hpos
  obtain ⟨bp, op, oap, rfl, hcp⟩ := home_at (RowsAt.ext (R := ScPR) (fun x y => ScPR.ext x y) m5 hE3) x1 x2
  generalize hhm : homeG t x.print = hm at *
  have n2 := RowsAt.ext (R := ScTvR) (fun x y => ScTvR.ext x y) m2 hE3
  have n3 := RowsAt.ext (R := ScVR) (fun x _ => x) m3 hE3
  have hvl : ∀ j (hj : j < L.length), (0 <= L[j].venue /\ L[j].venue < t.venues.length) /\ (0 <= vlG t L[j] /\ vlG t L[j] < t.lands.length) /\ (0 <= L[j].days.lo /\ L[j].days.lo <= L[j].days.hi /\ L[j].days.hi <= 80000) := fun j hj => by
    obtain ⟨-, ⟨w3, w4⟩, w5, w6, w7⟩ := ln_ok (hLok _ (List.getElem_mem hj))
    exact ⟨⟨w3, w4⟩, venLand_ok hO w3 w4, w5, w6, w7⟩
  have hcv : ∀ j (hj : j < L.length), ∃ b o oa, aL = some ⟨b, o, oa⟩ /\ cellAt h3 b (o + j * 4 + 1) = some (i64 L[j].venue) /\ cellAt h3 b (o + j * 4 + 2 + 0) = some (i64 L[j].days.lo) /\ cellAt h3 b (o + j * 4 + 2 + 1) = some (i64 L[j].days.hi) := fun j hj => by
    obtain ⟨b, o, oa, e, row, hrow, hma⟩ := hLr j hj
    obtain rfl := hma
    exact ⟨b, o, oa, e, cell_of_row (k := 1) hrow rfl, cell_of_row (k := 2) hrow rfl, cell_of_row (k := 3) hrow rfl⟩
  obtain ⟨bL, oL, oaL, rfl, d1, -, -⟩ := hcv 0 hpos
  obtain ⟨v1, v2, -⟩ := hvl 0 hpos
  obtain ⟨bv, ov, oav, rfl, hcv1⟩ := ven_at n3 v1.1 v1.2
  obtain ⟨btr, otr, oatr, rfl, bt1, ot1, oat1, ct1, hct, hct', u1, u2, u3⟩ := trv_at hO n2 y1 y2 v2.1 v2.2
  replace hcv1 : cellAt h3 bv (ov + L[0].venue.toNat * 9 + 1) = some (i64 (vlG t L[0])) := hcv1
  refine zy ?_
  refine Wo_do rfl rfl rfl rfl (A_indexAddr (k := x.print.toNat) Und.h Tsz.h rfl rfl (by omega) (by omega)) ?_
  refine zy ?_
  have hlast : (L.length - 1 : Nat) < L.length := by omega
  have hfalse : awayG t hm L -> canG t hm L = false := fun hw => by rw [<- Bool.not_eq_true, hiff, Classical.not_not]; exact hw
  by_cases c1 : trv t hm (vlG t L[0]) < 0
  · refine Wc_draw hmix [0, 1, 0, 7, 15, 0, 32, 0, 128, 384, 896, 2016, 4064, 8160, 16383, 32767, 65535, 131071, 262143, 524287, 262143, 1310719, 262143, 262143, 8650751, 25427967, 63176703, 130285567, 264503295, 536084479, 1072955391, 2146697215, 4294967295, 8589934591, 262143, 34359738367, 68719476735, 137438953471, 274877906943] [0, 1, 2, 3, 4, 5, 6, 7, 8, 9, 10, 11, 12, 13, 14, 15, 16, 17, 18, 19, 20, 21, 22, 23, 24, 25, 26, 27, 28, 29, 30, 31, 32, 33, 34, 35, 36, 37, 38] none [] (by kernel_rfl) (by kernel_rfl) ?_
    refine z_f ?_; refine z_l ?_; refine z_m ?_; refine Wp_pure rfl rfl rfl rfl rfl (fun _ => A_indexAddr (k := hm.toNat) Und.h Tsz.h rfl rfl (by omega) (by omega)) ?_; refine z_l ?_; refine z_f ?_; refine z_l ?_; refine z_m ?_; refine Wp_pure rfl rfl rfl rfl rfl (fun _ => A_indexAddr (k := 0) Und.h Tsz.h rfl rfl rfl hpos) ?_; refine z_f ?_; refine z_l ?_; refine Wp_pure rfl rfl rfl rfl rfl (fun _ => A_indexAddr Und.h Tsz.h rfl rfl (Int.toNat_of_nonneg v1.1).symm (by omega)) ?_; refine z_f ?_; refine z_l ?_; refine Wp_pure rfl rfl rfl rfl rfl (fun _ => A_indexAddr Und.h Tsz.h rfl rfl (Int.toNat_of_nonneg v2.1).symm (by omega)) ?_; refine z_l ?_; refine Wp_pure rfl rfl rfl rfl rfl (fun _ => A_tt c1 (A_lss rfl rfl)) ?_; refine z_m ?_; refine g_f ?_; refine g_l ?_; refine g_f ?_; refine g_l ?_; refine g_m ?_; refine g_m ?_; refine g_c ?_; refine g_u ?_; refine g_i ?_; refine g_f ?_; refine g_l ?_; refine g_i ?_; refine g_f ?_; refine g_l ?_; refine g_i ?_; refine g_l ?_; refine g_m ?_; refine g_i ?_; refine g_l ?_; refine z_o ?_; refine z_p ?_
    refine Wp_end (Stl_nil rfl) nb' ?_
    refine zy ?_
    exact Wc_ret (Lv_ret rfl ⟨by rw [hfalse ⟨hpos, .inl (.inl c1)⟩]; rfl, hE1.trans hE3⟩)
  obtain ⟨bL', oL', oaL', eL, e1, -, -⟩ := hcv (L.length - 1) hlast
  cases eL
  obtain ⟨z1, z2, -⟩ := hvl (L.length - 1) hlast
  obtain ⟨bv', ov', oav', eV, e2⟩ := ven_at n3 z1.1 z1.2
  cases eV
  obtain ⟨btr', otr', oatr', eT, bt2, ot2, oat2, ct2, e3, e4, u4, u5, u6⟩ := trv_at hO n2 z2.1 z2.2 y1 y2
  cases eT
  replace e2 : cellAt h3 bv (ov + L[L.length - 1].venue.toNat * 9 + 1) = some (i64 (vlG t L[L.length - 1])) := e2
  refine Wc_draw hmix [0, 1, 0, 7, 15, 0, 32, 0, 128, 384, 896, 2016, 4064, 8160, 16383, 32767, 65535, 131071, 262143, 524287, 262143, 1310719, 262143, 262143, 8650751, 25427967, 63176703, 130285567, 264503295, 536084479, 1072955391, 2146697215, 4294967295, 8589934591, 262143, 34359738367, 68719476735, 137438953471, 274877906943] [0, 1, 2, 3, 4, 5, 6, 7, 8, 9, 10, 11, 12, 13, 14, 15, 16, 17, 18, 19, 20, 21, 22, 23, 24, 25, 26, 27, 28, 29, 30, 31, 32, 33, 34, 35, 36, 37, 38] none [] (by kernel_rfl) (by kernel_rfl) ?_
  refine z_f ?_; refine z_l ?_; refine z_m ?_; refine Wp_pure rfl rfl rfl rfl rfl (fun _ => A_indexAddr (k := hm.toNat) Und.h Tsz.h rfl rfl (by omega) (by omega)) ?_; refine z_l ?_; refine z_f ?_; refine z_l ?_; refine z_m ?_; refine Wp_pure rfl rfl rfl rfl rfl (fun _ => A_indexAddr (k := 0) Und.h Tsz.h rfl rfl rfl hpos) ?_; refine z_f ?_; refine z_l ?_; refine Wp_pure rfl rfl rfl rfl rfl (fun _ => A_indexAddr Und.h Tsz.h rfl rfl (Int.toNat_of_nonneg v1.1).symm (by omega)) ?_; refine z_f ?_; refine z_l ?_; refine Wp_pure rfl rfl rfl rfl rfl (fun _ => A_indexAddr Und.h Tsz.h rfl rfl (Int.toNat_of_nonneg v2.1).symm (by omega)) ?_; refine z_l ?_; refine Wp_pure rfl rfl rfl rfl rfl (fun _ => A_ff c1 (A_lss rfl rfl)) ?_; refine z_m ?_; refine g_f ?_; refine g_l ?_; refine g_f ?_; refine g_l ?_; refine g_m ?_; refine g_m ?_; refine g_c ?_; refine g_u ?_
  first | refine Wp_off rfl rfl rfl rfl ?_ | refine Wp_pure rfl rfl rfl rfl rfl (fun _ => A_indexAddr (k := L.length - 1) Und.h Tsz.h rfl rfl (by omega) hlast) ?_
  refine g_f ?_; refine g_l ?_
  first | refine Wp_off rfl rfl rfl rfl ?_ | refine Wp_pure rfl rfl rfl rfl rfl (fun _ => A_indexAddr Und.h Tsz.h rfl rfl (Int.toNat_of_nonneg z1.1).symm (by omega)) ?_
  refine g_f ?_; refine g_l ?_
  first | refine Wp_off rfl rfl rfl rfl ?_ | refine Wp_pure rfl rfl rfl rfl rfl (fun _ => A_indexAddr Und.h Tsz.h rfl rfl (Int.toNat_of_nonneg z2.1).symm (by omega)) ?_
  refine g_l ?_; refine g_m ?_
  first | refine Wp_off rfl rfl rfl rfl ?_ | refine Wp_pure rfl rfl rfl rfl rfl (fun _ => A_indexAddr (k := hm.toNat) Und.h Tsz.h rfl rfl (by omega) (by omega)) ?_
  refine g_l ?_
  refine Wp_dec rfl rfl rfl rfl rfl (fun _ => A_lss rfl rfl) (fun h5 => ?_) (fun h5 => ?_)
  · refine z_p ?_
    refine Wp_end (Stl_nil rfl) nb' ?_
    refine zy ?_
    exact Wc_ret (Lv_ret rfl ⟨by rw [hfalse ⟨hpos, .inl (.inr h5)⟩]; rfl, hE1.trans hE3⟩)
  refine z_p ?_
  refine Wp_end (Stl_nil rfl) nb' ?_
  refine zy ?_
  refine Wc_loop (fun (i : Nat) m ds h' => ds = [] /\ h3 = h' /\ 1 <= i /\ i <= L.length /\ (∀ j (hj : j + 1 < L.length), j + 1 < i -> ¬ badP t (L[j]'(by omega)) L[j + 1]) ∧
      AllK m [(3, .pointer (some ⟨bt, 0, none⟩)), (7, .slice (some ⟨bL, oL, oaL⟩) L.length cL), (11, i64 i)]) (fun i => L.length - i) 1 ?_ ?_
  · exact ⟨rfl, rfl, Nat.le_refl _, hpos, (fun _ _ hj => by omega), rfl, rfl, rfl, trivial⟩
  rintro i m ds h' ⟨rfl, rfl, hi1, hi, hno, hall⟩
  refine Wc.le ?_ (Le.kn hall)
  refine zy ?_
  refine Wo_dec rfl rfl rfl rfl (A_lss rfl rfl) (fun h6 => ?_) (fun h6 => ?_)
  · have hi' : i < L.length := by simpa using h6
    have him : i - 1 < L.length := by omega
    obtain ⟨bA, oA, oaA, eA, f1, f2, f3⟩ := hcv (i - 1) him
    cases eA
    obtain ⟨bB, oB, oaB, eB, g1, g2, g3⟩ := hcv i hi'
    cases eB
    obtain ⟨p1, p2, p3⟩ := hvl (i - 1) him
    obtain ⟨r1, r2, r3⟩ := hvl i hi'
    obtain ⟨bw, ow, oaw, eW, k3⟩ := ven_at n3 p1.1 p1.2
    cases eW
    obtain ⟨bw', ow', oaw', eW', k4⟩ := ven_at n3 r1.1 r1.2
    cases eW'
    obtain ⟨btr', otr', oatr', eT, bt2, ot2, oat2, ct2, e3, e4, u4, u5, u6⟩ := trv_at hO n2 p2.1 p2.2 r2.1 r2.2
    cases eT
    replace k3 : cellAt h3 bv (ov + L[i - 1].venue.toNat * 9 + 1) = some (i64 (vlG t L[i - 1])) := k3
    replace k4 : cellAt h3 bv (ov + L[i].venue.toNat * 9 + 1) = some (i64 (vlG t L[i])) := k4
    have hbad := badP_iff (t := t) (a := L[i - 1]) (b := L[i]) rfl
    have hst : (∀ h : i - 1 + 1 < L.length, L[i - 1 + 1]'h = L[i]) := fun h => by congr 1; omega
    generalize hn : trv t (vlG t L[i - 1]) (vlG t L[i]) = n at *
    have hF : badP t L[i - 1] L[i] -> canG t hm L = false := fun hb => hfalse ⟨hpos, .inr ⟨i - 1, by omega, by rw [hst]; exact hb⟩⟩
    have hT : ¬ badP t L[i - 1] L[i] -> ∀ j (hj : j + 1 < L.length), j + 1 < i + 1 -> ¬ badP t (L[j]'(by omega)) L[j + 1] := fun hb j hj hlt => by
      rcases Nat.lt_or_ge (j + 1) i with g | g
      · exact hno j hj g
      · obtain rfl : i = j + 1 := by omega
        exact hb
    refine zy ?_
    refine Wc_draw hmix [0, 1, 0, 4, 0, 0, 32, 112, 240, 496, 1020, 2044, 4092, 8191, 16383, 0, 32768, 0, 0, 393216, 917504, 1966080, 4161536, 8355840, 16744448, 33554431, 67108863, 134217727] [0, 1, 2, 3, 4, 5, 6, 7, 8, 9, 10, 11, 12, 13, 14, 15, 16, 17, 18, 19, 20, 21, 22, 23, 24, 25, 26] (some 27) [([], none)] (by kernel_rfl) (by kernel_rfl) ?_
    refine z_f ?_; refine z_l ?_; refine z_f ?_; refine z_l ?_; refine z_m ?_; refine z_m ?_; refine z_u ?_; refine Wp_pure rfl rfl rfl rfl rfl (fun _ => A_indexAddr (k := i - 1) Und.h Tsz.h rfl rfl (by omega) him) ?_; refine z_f ?_; refine z_l ?_; refine Wp_pure rfl rfl rfl rfl rfl (fun _ => A_indexAddr Und.h Tsz.h rfl rfl (Int.toNat_of_nonneg p1.1).symm (by omega)) ?_; refine z_f ?_; refine z_l ?_; refine Wp_pure rfl rfl rfl rfl rfl (fun _ => A_indexAddr Und.h Tsz.h rfl rfl (Int.toNat_of_nonneg p2.1).symm (by omega)) ?_; refine z_l ?_; refine z_f ?_; refine z_l ?_; refine z_m ?_; refine z_m ?_; refine z_i ?_; refine z_f ?_; refine z_l ?_; refine Wp_pure rfl rfl rfl rfl rfl (fun _ => A_indexAddr Und.h Tsz.h rfl rfl (Int.toNat_of_nonneg r1.1).symm (by omega)) ?_; refine z_f ?_; refine z_l ?_; refine Wp_pure rfl rfl rfl rfl rfl (fun _ => A_indexAddr Und.h Tsz.h rfl rfl (Int.toNat_of_nonneg r2.1).symm (by omega)) ?_; refine z_l ?_
    refine Wp_eff [0, 1, 2, 3, 4, 5, 6, 7, 8, 9, 10, 11, 12, 13, 14, 15, 16, 17, 18, 19, 20, 21, 22, 23, 24, 25, 26] (by kernel_rfl) rfl (Stl_nil rfl) rfl nb rfl (W1_op rfl rfl (A_assign rfl) ?_)
    refine Wp_end (Stl_nil rfl) nb' ?_
    refine zy ?_
    by_cases c2 : n < 0
    · refine Wc_draw hmix [0, 1, 3, 7, 7, 31, 63, 127, 255, 7, 7, 1031, 3591, 7687, 15879, 32263, 65535, 7, 262143, 524287] [0, 1, 2, 3, 4, 5, 6, 7, 8, 9, 10, 11, 12, 13, 14, 15, 16, 17, 18, 19] none [] (by kernel_rfl) (by kernel_rfl) ?_
      refine z_m ?_; refine Wp_pure rfl rfl rfl rfl rfl (fun _ => A_tt c2 (A_lss rfl rfl)) ?_; refine z_m ?_; refine g_m ?_; refine g_m ?_; refine g_i ?_; refine g_f ?_; refine g_f ?_; refine g_l ?_; refine g_m ?_; refine g_m ?_; refine g_u ?_; refine g_i ?_; refine g_f ?_; refine g_f ?_; refine g_l ?_; refine g_u ?_; refine g_m ?_; refine z_o ?_; refine z_p ?_
      refine Wp_end (Stl_nil rfl) nb' ?_
      refine zy ?_
      exact Wc_ret (Lv_ret rfl ⟨by rw [hF (hbad.2 (.inl c2))]; rfl, hE1.trans hE3⟩)
    refine Wc_draw hmix [0, 1, 3, 7, 7, 31, 63, 127, 255, 7, 7, 1031, 3591, 7687, 15879, 32263, 65535, 7, 262143, 524287] [0, 1, 2, 3, 4, 5, 6, 7, 8, 9, 10, 11, 12, 13, 14, 15, 16, 17, 18, 19] none [] (by kernel_rfl) (by kernel_rfl) ?_
    refine z_m ?_; refine Wp_pure rfl rfl rfl rfl rfl (fun _ => A_ff c2 (A_lss rfl rfl)) ?_; refine z_m ?_; refine g_m ?_; refine g_m ?_; refine g_i ?_; refine g_f ?_; refine g_f ?_; refine g_l ?_; refine g_m ?_; refine g_m ?_; refine g_u ?_
    first | refine Wp_off rfl rfl rfl rfl ?_ | refine Wp_pure rfl rfl rfl rfl rfl (fun _ => A_indexAddr (k := i - 1) Und.h Tsz.h rfl rfl (by omega) him) ?_
    refine g_f ?_; refine g_f ?_; refine g_l ?_; refine g_u ?_; refine g_m ?_
    refine Wp_dec rfl rfl rfl rfl rfl (fun _ => A_leq rfl rfl) (fun h8 => ?_) (fun h8 => ?_)
    · refine z_p ?_
      refine Wp_end (Stl_nil rfl) nb' ?_
      refine zy ?_
      exact Wc_ret (Lv_ret rfl ⟨by rw [hF (hbad.2 (.inr h8))]; rfl, hE1.trans hE3⟩)
    refine z_p ?_
    refine Wp_end (Stl_nil rfl) nb' ?_
    refine zy ?_
    exact ⟨i + 1, (by show L.length - (i + 1) < L.length - i; omega), rfl, rfl, by omega, hi', hT (fun hb => (hbad.1 hb).elim c2 h8), rfl, rfl, rfl, trivial⟩
  have hfin : canG t hm L = true := by
    rw [hiff]
    rintro ⟨_, (g | g) | ⟨j, hj, g⟩⟩
    · exact c1 g
    · exact h5 g
    · exact hno j hj (by omega) g
  rw [hfin]
  refine zy ?_
  exact Wc_ret (Lv_ret rfl ⟨rfl, hE1.trans hE3⟩)
theorem refLoans0_sv {tc : List Value} {t : ScT} {h : Heap} (ht : ScTAt h tc t) (hO : ScOk t) : Sv Tryz.prog 85 [.agg ⟨tc⟩] h (RetP fun v h' => Ext h h' /\ ∃ ag cg aw cw, v = .tuple ⟨[.slice ag (loansS t).1.length cg, .slice aw (loansS t).2.length cw]⟩ /\ RowsAt 4 ScLR h' ag (loansS t).1 /\ IntsAt h' aw (loansS t).2) := by
  have ht0 := ht
  obtain ⟨al, cl, at', ct, a1, c1, a2, c2, a3, c3, a4, c4, a5, c5, a6, c6, rfl, -, -, -, -, -, -, -, m8⟩ := ht
  have hll := hO.loans1
  refine Sv_wf fun hw => ?_
  refine Sv_enter Tryz.func85 rfl (by rw [Tryz.ntmps85]; rfl) ?_; show Wc Tryz.prog ⟨85, 38, none⟩ _ _ _ _ _
  refine zy ?_
  refine Wo_box rfl rfl rfl fun h1 hE1 hW1 hg1 hn1 => ?_
  replace ht0 := ht0.ext hE1
  replace m8 := RowsAt.ext (R := ScLR) (fun x _ => x) m8 hE1
  generalize h.nx = b1 at *
  refine zy ?_
  refine Wc_loop (fun (s : Nat × Value × Value) m ds h' => ds = [] /\ s.1 <= t.loans.length /\ Ext h1 h' /\ Own h1 h' [slI h1 s.2.1 51 4 ((lpre t s.1).1.flatMap lnRow) (lpre t s.1).1.length, slI h1 s.2.2 32 1 ((lpre t s.1).2.map i64) (lpre t s.1).2.length] ∧
      AllK m [(1, .pointer (some ⟨b1, 0, none⟩)), (4, s.2.1), (5, s.2.2), (6, i64 s.1)]) (fun s => t.loans.length - s.1) (0, .slice none 0 0, .slice none 0 0) ?_ ?_
  · exact ⟨rfl, Nat.zero_le _, Ext.refl _, ((Own.nil h1 h1).nilSl 32 1).nilSl 51 4, rfl, rfl, rfl, rfl, trivial⟩
  rintro ⟨k, vg, vw⟩ m ds h5 ⟨rfl, hk, hE5, hO5, hall⟩
  simp only at hk hO5 hall
  obtain ⟨p1, p2, p3⟩ := lpre_ok hO hk
  have k1 := hE5.get hg1
  refine Wc.le ?_ (Le.kn hall)
  refine zy ?_
  refine Wo_dec rfl rfl rfl rfl (A_lss rfl rfl) (fun h6 => ?_) (fun h6 => ?_)
  · have hk' : k < t.loans.length := by simpa using h6
    have hls := lpre_succ hk'
    have hxok := hO.loans _ (List.getElem_mem hk')
    obtain ⟨b', o, oa, rfl, row, hrow, hma⟩ := m8 k hk'
    generalize hmk : t.loans[k] = x at *
    obtain rfl := hma
    have hrow5 := hE5.row hrow
    generalize hG : (lpre t k).1 = G at *
    generalize hW : (lpre t k).2 = W at *
    obtain ⟨ag, cg, rfl, hGr⟩ := lnRows_at (show FreshSl h1 h5 vg 51 4 _ _ from hO5.at 0 rfl)
    refine zy ?_
    refine Wc_draw hmix [0, 0, 0, 4, 0, 28, 60, 127] [0, 1, 2, 3, 4, 5, 6] (some 7) [([], none)] (by kernel_rfl) (by kernel_rfl) ?_
    refine z_r ?_; refine z_m ?_; refine z_f ?_; refine z_l ?_; refine z_m ?_; refine z_i ?_; refine z_r ?_
    refine Wp_eff [0, 1, 2, 3, 4, 5, 6] (by kernel_rfl) rfl (Stl_nil rfl) rfl nb rfl (W1_callB rfl rfl rfl rfl rfl Bod.h (away_sv (ht0.ext hE5) hGr hO p1 (by omega) hxok rfl) (fun h8 h9 hE9 => ?_) (fun h8 h9 hE9 => ?_))
    · refine Wp_end (Stl_nil rfl) nb' ?_
      rw [if_neg (by cases hq : grantS t G x <;> rw [hq] at h8 <;> simp_all)] at hls
      have hwl : (W ++ [(210 : Int)]).length = W.length + 1 := by simp
      have hwm : (W ++ [(210 : Int)]).map i64 = W.map i64 ++ [i64 210] := by simp
      replace hE5 := hE5.trans hE9
      replace hO5 := hO5.ext hE9
      refine zy ?_
      refine Wo_bs rfl rfl Und.h Tsz.h Zr.h rfl rfl rfl rfl rfl fun h12 hE12 hW12 hg12 hn12 => ?_
      refine Wo_appendO (k := 1) (l := [i64 210]) hW1 (hE5.trans hE12) rfl rfl rfl rfl rfl Und.h inferInstance rfl rfl (hO5.ext hE12).up2 (asrc_row Und.h (by intro k; simp) (rowAt_cells hg12 rfl)) rfl rfl (by omega) (by omega) fun v13 h13 hW13 hO13 hE13 => ?_
      rw [<- hwl, <- hwm] at hO13
      refine zy ?_
      refine ⟨(k + 1, .slice ag G.length cg, v13), ?_, rfl, hk', hE13, ?_, rfl, rfl, rfl, rfl, trivial⟩
      · show t.loans.length - (k + 1) < t.loans.length - k; omega
      · simp only [hls]; exact hO13.up2
    · refine Wp_end (Stl_nil rfl) nb' ?_
      rw [if_pos (by cases hq : grantS t G x <;> rw [hq] at h8 <;> simp_all)] at hls
      have hgl : (G ++ [x]).length = G.length + 1 := by simp
      have hgm : (G ++ [x]).flatMap lnRow = G.flatMap lnRow ++ lnRow x := by simp [List.flatMap_append]
      have hwl : (W ++ [(0 : Int)]).length = W.length + 1 := by simp
      have hwm : (W ++ [(0 : Int)]).map i64 = W.map i64 ++ [i64 0] := by simp
      replace hE5 := hE5.trans hE9
      replace hO5 := hO5.ext hE9
      replace hrow5 := hE9.row hrow5
      replace k1 := hE9.get k1
      refine zy ?_
      refine Wo_do rfl rfl rfl rfl (A_ix Und.h Tsz.h rfl rfl) ?_
      refine zy ?_
      refine Wo_bs rfl rfl Und.h Tsz.h Zr.h rfl rfl rfl rfl rfl fun h12 hE12 hW12 hg12 hn12 => ?_
      refine Wo_appendO (k := 1) (l := lnRow x) hW1 (hE5.trans hE12) rfl rfl rfl rfl rfl Und.h inferInstance rfl rfl (hO5.ext hE12) (asrc_row Und.h (by intro k; simp) (rowAt_cells hg12 rfl)) rfl rfl (by omega) (by omega) fun v13 h13 hW13 hO13 hE13 => ?_
      rw [<- hgl, <- hgm] at hO13
      refine zy ?_
      refine Wo_bs rfl rfl Und.h Tsz.h Zr.h rfl rfl rfl rfl rfl fun h14 hE14 hW14 hg14 hn14 => ?_
      refine Wo_appendO (k := 1) (l := [i64 0]) hW1 (hE13.trans hE14) rfl rfl rfl rfl rfl Und.h inferInstance rfl rfl (hO13.ext hE14).up2 (asrc_row Und.h (by intro k; simp) (rowAt_cells hg14 rfl)) rfl rfl (by omega) (by omega) fun v15 h15 hW15 hO15 hE15 => ?_
      rw [<- hwl, <- hwm] at hO15
      refine zy ?_
      refine ⟨(k + 1, v13, v15), ?_, rfl, hk', hE15, ?_, rfl, rfl, rfl, rfl, trivial⟩
      · show t.loans.length - (k + 1) < t.loans.length - k; omega
      · simp only [hls]; exact hO15.up2
  have hk2 : k = t.loans.length := by omega
  subst hk2
  rw [lpre_all] at hO5
  obtain ⟨ag, cg, rfl, hGr⟩ := lnRows_at (show FreshSl h1 h5 vg 51 4 _ _ from hO5.at 0 rfl)
  obtain ⟨aw, rfl, -, hWr⟩ := FreshSl.list (enc := i64) (show FreshSl h1 h5 vw 32 1 _ _ from hO5.at 1 rfl)
  refine zy ?_
  exact Wc_ret (Lv_ret rfl ⟨hE1.trans hE5, ag, cg, aw, _, rfl, hGr, hWr⟩)
theorem refValid_sv {tc : List Value} {t : ScT} {h : Heap} (ht : ScTAt h tc t) (hT : t.Fit) : Sv Tryz.prog 84 [.agg ⟨tc⟩] h (RetP fun v h' => v = i64 (errSc t) /\ Ext h h') := by
  have ht0 := ht
  obtain ⟨al, cl, at', ct, a1, c1, a2, c2, a3, c3, a4, c4, a5, c5, a6, c6, rfl, -⟩ := ht
  refine Sv_wf fun hw => ?_
  refine Sv_enter Tryz.func84 rfl (by rw [Tryz.ntmps84]; rfl) ?_; show Wc Tryz.prog ⟨84, 13, none⟩ _ _ _ _ _
  refine zy ?_
  refine Wo_box rfl rfl rfl fun h1 hE1 hW1 hg1 hn1 => ?_
  generalize h.nx = b1 at *
  refine zy ?_
  refine Wo_callE rfl rfl rfl rfl rfl Bod.h rfl rfl (refScCheck_sv (ht0.ext hE1) hT) fun h2 hE2 => ?_
  refine zy ?_
  exact Wc_ret (Lv_ret rfl ⟨rfl, hE1.trans hE2⟩)
theorem refScLoans_sv {tc : List Value} {t : ScT} {h : Heap} (ht : ScTAt h tc t) (hT : t.Fit) : Sv Tryz.prog 21 [.agg ⟨tc⟩] h (RetP fun v h' => Ext h h' /\ ((¬ errSc t = 0 /\ v = .tuple ⟨[.slice none 0 0, i64 (errSc t)]⟩) \/ (errSc t = 0 /\ ∃ a c, v = .tuple ⟨[.slice a (loansS t).2.length c, i64 0]⟩ /\ IntsAt h' a (loansS t).2))) := by
  have ht0 := ht
  obtain ⟨al, cl, at', ct, a1, c1, a2, c2, a3, c3, a4, c4, a5, c5, a6, c6, rfl, -⟩ := ht
  refine Sv_wf fun hw => ?_
  refine Sv_enter Tryz.func21 rfl (by rw [Tryz.ntmps21]; rfl) ?_; show Wc Tryz.prog ⟨21, 18, none⟩ _ _ _ _ _
  refine zy ?_
  refine Wo_box rfl rfl rfl fun h1 hE1 hW1 hg1 hn1 => ?_
  generalize h.nx = b1 at *
  refine zy ?_
  refine Wo_callE rfl rfl rfl rfl rfl Bod.h rfl rfl (refValid_sv (ht0.ext hE1) hT) fun h2 hE2 => ?_
  replace hg1 := hE2.get hg1
  replace hE1 := hE1.trans hE2
  refine zy ?_
  refine Wo_dec rfl rfl rfl rfl (A_neq rfl rfl) (fun h3 => ?_) (fun h3 => ?_)
  · refine zy ?_
    exact Wc_ret (Lv_ret rfl ⟨hE1, .inl ⟨h3, rfl⟩⟩)
  replace h3 : errSc t = 0 := Decidable.not_not.1 h3
  refine zy ?_
  refine Wo_callr rfl rfl rfl rfl rfl Bod.h rfl rfl (refLoans0_sv (ht0.ext hE1) (sc_ok h3)) ?_
  rintro v h4 ⟨hE4, ag, cg, aw, cw, rfl, hGr, hWr⟩
  refine zy ?_
  exact Wc_ret (Lv_ret rfl ⟨hE1.trans hE4, .inr ⟨h3, aw, cw, rfl, hWr⟩⟩)
theorem refErrors_sv {a b : Option Addr} {ca cb : Nat} {l l' : List Int} {h : Heap} (hl : IntsAt h a l) (hl' : IntsAt h b l') (hn : Len l) (hn' : Len l') : Sv Tryz.prog 22 [.slice a l.length ca, .slice b l'.length cb] h (RetP fun v h' => v = .bool (decide (l = l')) /\ h' = h) := by
  refine Sv_enter Tryz.func22 rfl (by rw [Tryz.ntmps22]; rfl) ?_; show Wc Tryz.prog ⟨22, 26, none⟩ _ _ _ _ _
  refine zy ?_
  refine Wo_dec rfl rfl rfl rfl (A_neq rfl rfl) (fun h1 => ?_) (fun h1 => ?_)
  · refine zy ?_
    exact Wc_ret (Lv_ret rfl ⟨by rw [decide_eq_false (fun e => h1 (by rw [e]))]; rfl, rfl⟩)
  have hll : l.length = l'.length := by have := Decidable.not_not.1 h1; omega
  refine zy ?_
  refine Wc_loop (fun (k : Nat) m ds h' => ds = [] /\ h = h' /\ k <= l.length /\ (∀ j (hj : j < l.length), j < k -> l[j] = l'[j]'(by omega)) /\ AllK m [(0, .slice a l.length ca), (1, .slice b l'.length cb), (5, i64 k)]) (fun k => l.length - k) 0 ?_ ?_
  · exact ⟨rfl, rfl, Nat.zero_le _, (fun _ _ hj => by omega), rfl, rfl, rfl, trivial⟩
  rintro k m ds h' ⟨rfl, rfl, hk, hno, hall⟩
  refine Wc.le ?_ (Le.kn hall)
  refine zy ?_
  refine Wo_dec rfl rfl rfl rfl (A_lss rfl rfl) (fun h3 => ?_) (fun h3 => ?_)
  · have hk' : k < l.length := by simpa using h3
    obtain ⟨b1, o1, oa1, rfl, hc1⟩ := hl k hk'
    obtain ⟨b2, o2, oa2, rfl, hc2⟩ := hl' k (by omega)
    refine zy ?_
    refine Wc_draw hmix [0, 0, 3, 7, 0, 0, 48, 112, 255] [0, 1, 2, 3, 4, 5, 6, 7, 8] none [] (by kernel_rfl) (by kernel_rfl) ?_
    refine z_m ?_; refine z_m ?_; refine z_i ?_; refine z_l ?_; refine z_m ?_; refine z_m ?_; refine z_i ?_; refine z_l ?_
    refine Wp_dec rfl rfl rfl rfl rfl (fun _ => A_neq rfl rfl) (fun h4 => ?_) (fun h4 => ?_)
    · refine Wp_end (Stl_nil rfl) nb' ?_
      refine zy ?_
      exact Wc_ret (Lv_ret rfl ⟨by rw [decide_eq_false (fun e => h4 (by subst e; rfl))]; rfl, rfl⟩)
    refine Wp_end (Stl_nil rfl) nb' ?_
    refine zy ?_
    refine ⟨k + 1, (by show l.length - (k + 1) < l.length - k; omega), rfl, rfl, hk', fun j hj hlt => ?_, rfl, rfl, rfl, trivial⟩
    rcases Nat.lt_or_ge j k with g | g
    · exact hno j hj g
    · obtain rfl : j = k := by omega
      exact Decidable.not_not.1 h4
  have he : l = l' := List.ext_getElem hll fun i h1 h2 => hno i h1 (by omega)
  refine zy ?_
  exact Wc_ret (Lv_ret rfl ⟨by rw [decide_eq_true he]; rfl, rfl⟩)
end Go.Dw
