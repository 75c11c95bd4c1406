/- J2: contracts of small functions of chapter 04: must, Contains, has, turned, valid, indices, with. -/
import Derived.Test.YtcjmpdpgfmjcgaaGreatDoorEG2
import Derived.Test.YtcjmpdpgfmjcgaaGreatDoorEG6
import Derived.Test.YtcjmpdpgfmjcgaaGreatDoorEG7
namespace Go.Dw
open Go Go.Dx Go.Proofs
set_option maxRecDepth 100000
section
variable {P : Program} {fr : Fr} {m : Mem} {ds : List ADef} {h : Heap} {Q : CQ} {ops : Array Oper} {l : List Oper} {o : Oper}
end
/-- The panic of an error. -/
abbrev errV (e : Int) : Value := .iface 26 (i64 e)
theorem has_sv {a : Option Addr} {cap : Nat} {l : List Int} {n : Int} {h : Heap} (hl : IntsAt h a l) (hlen : Len l) : Sv Tryz.prog 71 [.slice a l.length cap, i64 n] h (RetP fun v h' => v = .bool (decide (n ∈ l)) ∧ h' = h) := by
  refine Sv_enter Tryz.func71 rfl (by rw [Tryz.ntmps71]; rfl) ?_; show Wc Tryz.prog ⟨71, 18, none⟩ _ _ _ _ _
  refine zz ?_
  refine Wc_loop (fun (k : Nat) m ds h' => ds = [] ∧ h' = h ∧ k ≤ l.length ∧ (∀ j (hj : j < l.length), j < k → l[j] ≠ n) ∧ AllK m [(0, .slice a l.length cap), (1, i64 n), (5, i64 k)]) (fun k => l.length - k) 0 ?_ ?_
  · exact ⟨rfl, rfl, Nat.zero_le _, (fun _ _ hj => by omega), rfl, rfl, rfl, trivial⟩
  rintro k m ds h' ⟨rfl, rfl, hk, hno, hall⟩
  refine Wc.le ?_ (Le.kn hall)
  refine zz ?_
  refine Wo_dec rfl rfl rfl rfl (A_lss rfl rfl) (fun h1 => ?_) (fun h1 => ?_)
  · have hk' : k < l.length := by simpa using h1
    obtain ⟨b, o, oa, rfl, hc⟩ := hl k hk'
    refine zz ?_
    refine Wo_do rfl rfl rfl rfl (A_ix Und.h Tsz.h rfl rfl) ?_
    refine zz ?_
    refine Wo_dec rfl rfl rfl rfl (A_eql rfl rfl) (fun h2 => ?_) (fun h2 => ?_)
    · refine zz ?_
      refine Wc_ret (Lv_ret rfl ⟨?_, rfl⟩)
      rw [decide_eq_true (by rw [← h2]; exact List.getElem_mem hk')]; rfl
    · refine zz ?_
      refine ⟨k + 1, ?_, rfl, rfl, hk', ?_, rfl, rfl, rfl, trivial⟩
      · show l.length - (k + 1) < l.length - k; omega
      · intro j hj hlt
        rcases Nat.lt_or_ge j k with g | g
        · exact hno j hj g
        · have : j = k := by omega
          subst this; exact h2
  · have hk2 : k = l.length := by omega
    subst hk2
    refine zz ?_
    refine Wc_ret (Lv_ret rfl ⟨?_, rfl⟩)
    rw [decide_eq_false (fun hm => by
      obtain ⟨j, hj, e⟩ := List.getElem_of_mem hm
      exact hno j hj hj e)]; rfl
theorem allOne_i64 (l : List Int) : allOne (l.map i64) = true := by
  induction l with
  | nil => rfl
  | cons x l ih => exact ih
/-! ### turns -/
def TurnR (_ : Heap) (row : List Value) (x : Turn) : Prop := row = [i64 x.reel, i64 x.machine, i64 x.day]
abbrev TurnsAt := RowsAt 3 TurnR
theorem TurnR.ext {h h' : Heap} {row : List Value} {x : Turn} (a : TurnR h row x) (_ : Ext h h') : TurnR h' row x := a
theorem TurnsAt.ext {h h' : Heap} {a : Option Addr} {l : List Turn} (hl : TurnsAt h a l) (he : Ext h h') : TurnsAt h' a l := RowsAt.ext (R := TurnR) (fun x y => TurnR.ext x y) hl he
theorem TurnsAt.at {h : Heap} {a : Option Addr} {l : List Turn} (hl : TurnsAt h a l) {k : Nat} (hk : k < l.length) : ∃ b o oa, a = some ⟨b, o, oa⟩ ∧ rowAt h b (o + k * 3) 3 = some [i64 l[k].reel, i64 l[k].machine, i64 l[k].day] ∧ cellAt h b (o + k * 3 + 0) = some (i64 l[k].reel) ∧ cellAt h b (o + k * 3 + 1) = some (i64 l[k].machine) ∧ cellAt h b (o + k * 3 + 2) = some (i64 l[k].day) := by
  obtain ⟨b, o, oa, e, row, h1, h2⟩ := hl k hk
  unfold TurnR at h2
  subst h2
  exact ⟨b, o, oa, e, h1, cell_of_row h1 rfl, cell_of_row h1 rfl, cell_of_row h1 rfl⟩
end Go.Dw
/- J3: contracts: with, indices, can, Count, holds (telecineref04). -/
namespace Go.Dw
open Go Go.Dx Go.Proofs
set_option maxRecDepth 100000
end Go.Dw
/- J4: contracts: can, Count, holds (telecineref04). -/
namespace Go.Dw
open Go Go.Dx Go.Proofs
set_option maxRecDepth 100000
/-- Whether a reel can use a machine on a day (from 0 on). -/
def canB (t : Task) (k m d : Int) : Bool := decide (m ∈ (reelAt t k).machines ∧ (reelAt t k).ready ≤ t.first + d ∧ t.first + d ≤ (reelAt t k).due)
theorem reelAt_nat {t : Task} {k : Nat} (hk : k < t.reels.length) : reelAt t k = t.reels[k] := by
  unfold reelAt
  simp [List.getD_eq_getElem?_getD, hk]
theorem reelRow {t : Task} {ar : Option Addr} {h : Heap} (hR : RowsAt 5 ReelAt h ar t.reels) {k : Nat} (hk : k < t.reels.length) : ∃ b o oa a cap, ar = some ⟨b, o, oa⟩ ∧ rowAt h b (o + k * 5) 5 = some [str (reelAt t k).name, .slice a (reelAt t k).machines.length cap, i64 (reelAt t k).ready, i64 (reelAt t k).due, i64 (reelAt t k).risk] ∧ IntsAt h a (reelAt t k).machines ∧ cellAt h b (o + k * 5 + 4) = some (i64 (reelAt t k).risk) := by
  obtain ⟨b, o, oa, e, row, h1, h2⟩ := hR k hk
  rw [← reelAt_nat hk] at h2
  obtain ⟨a, cap, rfl, hI⟩ := h2
  exact ⟨b, o, oa, a, cap, e, h1, hI, cell_of_row h1 rfl⟩
theorem machRow {t : Task} {am : Option Addr} {h : Heap} (hM : RowsAt 2 MachAt h am t.machines) {k : Nat} (hk : k < t.machines.length) : ∃ b o oa a cap, am = some ⟨b, o, oa⟩ ∧ cellAt h b (o + k * 2 + 1) = some (.slice a t.machines[k].places.length cap) ∧ IntsAt h a t.machines[k].places := by
  obtain ⟨b, o, oa, e, row, h1, h2⟩ := hM k hk
  obtain ⟨a, cap, rfl, hI⟩ := h2
  exact ⟨b, o, oa, a, cap, e, cell_of_row h1 rfl, hI⟩
theorem can_sv {tc : List Value} {t : Task} {h : Heap} {k : Nat} {m d : Int} (ht : TaskAt h tc t) (hf : t.Fit) (hk : k < t.reels.length) (hfd : I64 (t.first + d)) : Sv Tryz.prog 77 [.agg ⟨tc⟩, i64 k, i64 m, i64 d] h (RetP fun v h' => v = .bool (canB t k m d) ∧ Ext h h') := by
  obtain ⟨am, cm, ar, cr, rfl, hM, hR⟩ := ht
  obtain ⟨b, o, oa, a, cap, rfl, hrow, hI, _⟩ := reelRow hR hk
  have hml : Len (reelAt t k).machines := by rw [reelAt_nat hk]; exact (hf.rsF _ (List.getElem_mem hk)).ms
  have hrs := hf.rs
  refine Sv_wf fun hw => ?_
  refine Sv_enter Tryz.func77 rfl (by rw [Tryz.ntmps77]; rfl) ?_; show Wc Tryz.prog ⟨77, 30, none⟩ _ _ _ _ _
  refine zz ?_
  refine Wo_box rfl rfl rfl fun h1 hE1 hW1 hg1 hn1 => ?_
  refine zz ?_
  refine Wo_do rfl rfl rfl rfl (A_ix Und.h Tsz.h rfl rfl) ?_
  refine zz ?_
  refine Wo_alloc rfl rfl Zr.h fun h2 hE2 hW2 hg2 hn2 => ?_
  refine zz ?_
  refine Wo_store rfl Tsz.h rfl rfl hg2 rfl rfl rfl fun h3 hU3 => ?_
  have hg3 := hU3.at'
  have hE3 : Ext h h3 := hU3.ext (hE1.trans hE2) hw hE1.2.1
  have hne : h.nx ≠ h1.nx := by have := hW1 _ _ hg1; omega
  replace hg1 := hU3.get hne (hE2.get hg1)
  clear hg2 hU3
  generalize h.nx = b1 at *
  generalize h1.nx = b2 at *
  refine zz ?_
  refine Wo_callP rfl rfl rfl rfl rfl Bod.h rfl rfl (has_sv (hI.ext hE3) hml) (fun hb => ?_) (fun hb => ?_)
  rotate_left
  · refine zz ?_
    refine Wc_ret (Lv_ret rfl ⟨?_, hE3⟩)
    have := of_decide_eq_false hb
    rw [canB, decide_eq_false (fun x => this x.1)]; rfl
  have hb := of_decide_eq_true hb
  refine zz ?_
  refine Wo_callP rfl rfl rfl rfl rfl Bod.h rfl rfl (in_sv _ _ _ _) (fun hb2 => ?_) (fun hb2 => ?_)
  · refine zz ?_
    refine Wc_ret (Lv_ret rfl ⟨?_, hE3⟩)
    rw [canB, decide_eq_true ⟨hb, of_decide_eq_true hb2⟩]; rfl
  · refine zz ?_
    refine Wc_ret (Lv_ret rfl ⟨?_, hE3⟩)
    have := of_decide_eq_false hb2
    rw [canB, decide_eq_false (fun x => this x.2)]; rfl
def cellN (t : Task) (l : List Int) (m d : Nat) : Int := if (l.any fun k => canB t k m d) = true then (t.machines.getD m noMach).places.getD d 0 else 0
def rowN (t : Task) (l : List Int) (m : Nat) : Nat → Int
  | 0 => 0
  | d + 1 => rowN t l m d + cellN t l m d
def sumN (t : Task) (l : List Int) : Nat → Int
  | 0 => 0
  | m + 1 => sumN t l m + rowN t l m t.days.toNat
/-- How many places any of some reels can use. -/
def countS (t : Task) (l : List Int) : Int := sumN t l t.machines.length
theorem placeAt {t : Task} (hV : Valid t) {m d : Nat} (hm : m < t.machines.length) (hd : d < t.days.toNat) : d < t.machines[m].places.length ∧ (t.machines.getD m noMach).places.getD d 0 = t.machines[m].places.getD d 0 ∧ 0 ≤ t.machines[m].places.getD d 0 ∧ t.machines[m].places.getD d 0 ≤ 20 := by
  obtain ⟨h1, h2⟩ := hV.ms _ (List.getElem_mem hm)
  have hlt : d < t.machines[m].places.length := by omega
  refine ⟨hlt, by simp [List.getD_eq_getElem?_getD, hm], ?_⟩
  have := h2 _ (List.getElem_mem hlt)
  simp only [List.getD_eq_getElem?_getD, List.getElem?_eq_getElem hlt, Option.getD_some]
  exact this
theorem cellN_range {t : Task} (hV : Valid t) {l : List Int} {m d : Nat} (hm : m < t.machines.length) (hd : d < t.days.toNat) : 0 ≤ cellN t l m d ∧ cellN t l m d ≤ 20 := by
  obtain ⟨h1, h2, h3, h4⟩ := placeAt hV hm hd
  unfold cellN
  split
  · rw [h2]; omega
  · omega
theorem rowN_range {t : Task} (hV : Valid t) {l : List Int} {m : Nat} (hm : m < t.machines.length) : ∀ {d : Nat}, d ≤ t.days.toNat → 0 ≤ rowN t l m d ∧ rowN t l m d ≤ 20 * d
  | 0, _ => ⟨Int.le_refl _, Int.le_refl _⟩
  | d + 1, hd => by
    have h1 := rowN_range hV (l := l) hm (d := d) (by omega)
    have h2 := cellN_range hV (l := l) hm (d := d) (by omega)
    unfold rowN
    omega
theorem sumN_range {t : Task} (hV : Valid t) {l : List Int} : ∀ {m : Nat}, m ≤ t.machines.length → 0 ≤ sumN t l m ∧ sumN t l m ≤ 1200 * m
  | 0, _ => ⟨Int.le_refl _, Int.le_refl _⟩
  | m + 1, hm => by
    have h1 := sumN_range hV (l := l) (m := m) (by omega)
    have h2 := rowN_range hV (l := l) (m := m) (by omega) (Nat.le_refl t.days.toNat)
    have := hV.d1
    unfold sumN
    omega
theorem refCount_sv {tc : List Value} {t : Task} {a : Option Addr} {cap : Nat} {l : List Int} {h : Heap} (ht : TaskAt h tc t) (hf : t.Fit) (hV : Valid t) (hl : IntsAt h a l) (hlen : Len l) (hli : ∀ n ∈ l, 0 ≤ n ∧ n < t.reels.length) :
    Sv Tryz.prog 34 [.agg ⟨tc⟩, .slice a l.length cap] h (RetP fun v h' => v = i64 (countS t l) ∧ Ext h h') := by
  have ht0 := ht
  obtain ⟨am, cm, ar, cr, rfl, hM, hR⟩ := ht
  have hms := hV.m1
  have hd0 := hV.d0
  have hd1 := hV.d1
  have hf0 := hV.f0
  have hf1 := hV.f1
  refine Sv_enter Tryz.func34 rfl (by rw [Tryz.ntmps34]; rfl) ?_; show Wc Tryz.prog ⟨34, 53, none⟩ _ _ _ _ _
  refine zz ?_
  refine Wo_box rfl rfl rfl fun h1 hE1 hW1 hg1 hn1 => ?_
  generalize h.nx = b1 at *
  refine zz ?_
  refine Wc_loop (fun (m : Nat) mm ds h' => ds = [] ∧ Ext h h' ∧ h'.get b1 = some (.cells [i64 t.first, i64 t.days, .slice am t.machines.length cm, .slice ar t.reels.length cr] 25 false) ∧ m ≤ t.machines.length ∧ AllK mm [(1, .slice a l.length cap), (2, .pointer (some ⟨b1, 0, none⟩)), (5, i64 (sumN t l m)), (6, i64 m)]) (fun m => t.machines.length - m) 0 ?_ ?_
  · exact ⟨rfl, hE1, hg1, Nat.zero_le _, rfl, rfl, rfl, rfl, trivial⟩
  clear hE1 hW1 hg1 hn1 h1
  rintro m mm ds h1 ⟨rfl, hE1, hg1, hm, hall⟩
  have hs1 := sumN_range hV (l := l) hm
  refine Wc.le ?_ (Le.kn hall)
  refine zz ?_
  refine Wo_dec rfl rfl rfl rfl (A_lss rfl rfl) (fun hmp => ?_) (fun hmp => ?_)
  rotate_left
  · refine zz ?_
    refine Wc_ret (Lv_ret rfl ⟨?_, hE1⟩)
    have hm2 : m = t.machines.length := by omega
    subst hm2; rfl
  have hm' : m < t.machines.length := by simpa using hmp
  refine zz ?_
  refine Wc_loop (fun (d : Nat) mm ds h' => ds = [] ∧ Ext h h' ∧ h'.get b1 = some (.cells [i64 t.first, i64 t.days, .slice am t.machines.length cm, .slice ar t.reels.length cr] 25 false) ∧ d ≤ t.days.toNat ∧ AllK mm [(1, .slice a l.length cap), (2, .pointer (some ⟨b1, 0, none⟩)), (5, i64 (sumN t l m + rowN t l m d)), (6, i64 m), (7, i64 d)]) (fun d => t.days.toNat - d) 0 ?_ ?_
  · exact ⟨rfl, hE1, hg1, Nat.zero_le _, rfl, rfl, by show _ = some (i64 (sumN t l m + 0)); rw [Int.add_zero]; rfl, rfl, rfl, trivial⟩
  clear hall hE1 hg1 h1
  rintro d mm ds h1 ⟨rfl, hE1, hg1, hd, hall⟩
  have hr1 := rowN_range hV (l := l) hm' hd
  refine Wc.le ?_ (Le.kn hall)
  refine zz ?_
  refine Wo_dec rfl rfl rfl rfl (A_lss rfl rfl) (fun hdp => ?_) (fun hdp => ?_)
  rotate_left
  · refine zz ?_
    refine ⟨m + 1, ?_, rfl, hE1, hg1, hm', rfl, rfl, ?_, rfl, trivial⟩
    · show t.machines.length - (m + 1) < t.machines.length - m; omega
    · have hd2 : d = t.days.toNat := by omega
      subst hd2; rfl
  have hd' : d < t.days.toNat := by omega
  refine zz ?_
  refine Wc_loop (fun (i : Nat) mm ds h' => ds = [] ∧ Ext h h' ∧ h'.get b1 = some (.cells [i64 t.first, i64 t.days, .slice am t.machines.length cm, .slice ar t.reels.length cr] 25 false) ∧ i ≤ l.length ∧ AllK mm [(1, .slice a l.length cap), (2, .pointer (some ⟨b1, 0, none⟩)), (5, i64 (sumN t l m + rowN t l m d)), (6, i64 m), (7, i64 d), (8, .bool ((l.take i).any fun k => canB t k m d)), (9, i64 i)]) (fun i => l.length - i) 0 ?_ ?_
  · exact ⟨rfl, hE1, hg1, Nat.zero_le _, rfl, rfl, rfl, rfl, rfl, rfl, rfl, trivial⟩
  clear hall hE1 hg1 h1
  rintro i mm ds h1 ⟨rfl, hE1, hg1, hi, hall⟩
  refine Wc.le ?_ (Le.kn hall)
  refine zz ?_
  refine Wo_dec rfl rfl rfl rfl (A_lss rfl rfl) (fun hip => ?_) (fun hip => ?_)
  · have hi' : i < l.length := by simpa using hip
    obtain ⟨b, o, oa, rfl, hc⟩ := hl i hi'
    have htk : l.take (i + 1) = l.take i ++ [l[i]] := by rw [List.take_add_one, List.getElem?_eq_getElem hi']; rfl
    obtain ⟨hn1, hn2⟩ := hli _ (List.getElem_mem hi')
    obtain ⟨k, hk⟩ : ∃ k : Nat, l[i] = k := ⟨l[i].toNat, by omega⟩
    have hkl : k < t.reels.length := by omega
    generalize hq : ((l.take i).any fun k => canB t k m d) = q at *
    rw [hk] at hc
    replace hc := hE1.cell hc
    cases q
    · refine zz ?_
      refine Wc_draw hmix [0, 1, 3, 3, 3, 27, 59, 3, 3, 511, 1023, 2047] [0, 1, 2, 3, 4, 5, 6, 7, 8] (some 9) [([10], (some 11)), ([], none)] (by kernel_rfl) (by kernel_rfl) ?_
      refine z_m ?_; refine z_m ?_; refine g_r ?_; refine g_m ?_; refine g_m ?_; refine g_i ?_; refine g_l ?_; refine g_m ?_; refine g_m ?_
      refine Wp_eff [0, 1, 2, 3, 4, 5, 6, 7, 8] (by kernel_rfl) rfl (Stl_nil rfl) rfl nb rfl (W1_callE rfl rfl rfl rfl rfl Bod.h (can_sv (ht0.ext hE1) hf hkl (by omega)) (fun h2 hE2 => ?_))
      refine z_p ?_
      refine Wp_eff [0, 1, 2, 3, 4, 5, 6, 7, 8, 9, 10] (by kernel_rfl) rfl (Stl_nil rfl) rfl nb rfl (W1_op rfl rfl (A_assign rfl) ?_)
      refine Wp_end (Stl_nil rfl) nb' ?_
      refine zz ?_
      refine ⟨i + 1, ?_, rfl, hE1.trans hE2, hE2.get hg1, hi', rfl, rfl, rfl, rfl, rfl, ?_, rfl, trivial⟩
      · show l.length - (i + 1) < l.length - i; omega
      · rw [htk, List.any_append, hq, hk]; simp; rfl
    · refine zz ?_
      refine Wc_draw hmix [0, 1, 3, 3, 3, 27, 59, 3, 3, 511, 1023, 2047] [0, 1, 2, 3, 4, 5, 6, 7, 8] (some 9) [([10], (some 11)), ([], none)] (by kernel_rfl) (by kernel_rfl) ?_
      refine z_m ?_; refine z_m ?_; refine g_r ?_; refine g_m ?_; refine g_m ?_; refine g_i ?_; refine g_l ?_; refine g_m ?_; refine g_m ?_
      refine Wp_eff [0, 1, 2, 3, 4, 5, 6, 7, 8] (by kernel_rfl) rfl (Stl_nil rfl) rfl nb rfl (W1_off rfl ?_)
      refine z_p ?_
      refine Wp_eff [0, 1, 2, 3, 4, 5, 6, 7, 8, 9, 10] (by kernel_rfl) rfl (Stl_nil rfl) rfl nb rfl (W1_op rfl rfl (A_assign rfl) ?_)
      refine Wp_end (Stl_nil rfl) nb' ?_
      refine zz ?_
      refine ⟨i + 1, ?_, rfl, hE1, hg1, hi', rfl, rfl, rfl, rfl, rfl, ?_, rfl, trivial⟩
      · show l.length - (i + 1) < l.length - i; omega
      · rw [htk, List.any_append, hq]; rfl
  have hi2 : i = l.length := by omega
  subst hi2
  obtain ⟨p1, p2, p3, p4⟩ := placeAt hV hm' hd'
  have hcell : cellN t l m d = if ((l.take l.length).any fun k => canB t k m d) = true then t.machines[m].places.getD d 0 else 0 := by rw [List.take_length]; unfold cellN; rw [p2]
  generalize hq : ((l.take l.length).any fun k => canB t k m d) = q at *
  cases q
  · refine zz ?_
    refine ⟨d + 1, ?_, rfl, hE1, hg1, hd', rfl, rfl, ?_, rfl, rfl, trivial⟩
    · show t.days.toNat - (d + 1) < t.days.toNat - d; omega
    · show _ = some (i64 (sumN t l m + (rowN t l m d + cellN t l m d)))
      rw [hcell]; simp; rfl
  · obtain ⟨b, o, oa, a', cap', rfl, hc, hI⟩ := machRow hM hm'
    obtain ⟨b', o', oa', rfl, hc'⟩ := hI d p1
    rw [List.getD_eq_getElem?_getD, List.getElem?_eq_getElem p1] at hcell p3 p4
    simp at hcell p3 p4
    refine zz ?_
    refine Wo_do rfl rfl rfl rfl (A_ix Und.h Tsz.h rfl rfl) ?_
    refine zz ?_
    refine Wo_do rfl rfl rfl rfl (A_ix Und.h Tsz.h rfl rfl) ?_
    refine zz ?_
    refine ⟨d + 1, ?_, rfl, hE1, hg1, hd', rfl, rfl, ?_, rfl, rfl, trivial⟩
    · show t.days.toNat - (d + 1) < t.days.toNat - d; omega
    · show _ = some (i64 (sumN t l m + (rowN t l m d + cellN t l m d)))
      rw [hcell, ← Int.add_assoc]; rfl
end Go.Dw
/- J5: contracts: holds (telecineref04). -/
namespace Go.Dw
open Go Go.Dx Go.Proofs
set_option maxRecDepth 100000
structure Lat where
  reel : Int
  by' : List Int
structure Lat.Fit (x : Lat) : Prop where
  reel : I64 x.reel
  len : Len x.by'
  byI : ∀ n ∈ x.by', I64 n
def LatR (h : Heap) (row : List Value) (x : Lat) : Prop := ∃ a cap, row = [i64 x.reel, .slice a x.by'.length cap] ∧ SrcAt i64 h a x.by'
abbrev LatsAt := RowsAt 2 LatR
theorem LatR.ext {h h' : Heap} {row : List Value} {x : Lat} (a : LatR h row x) (he : Ext h h') : LatR h' row x := by
  obtain ⟨a, c, h1, h2⟩ := a; exact ⟨a, c, h1, h2.ext he⟩
theorem LatsAt.ext {h h' : Heap} {a : Option Addr} {l : List Lat} (hl : LatsAt h a l) (he : Ext h h') : LatsAt h' a l := RowsAt.ext (R := LatR) (fun x y => LatR.ext x y) hl he
def byOk (t : Task) (done : List Int) (r k : Int) : Bool := decide (k ∈ done) && decide ((reelAt t r).risk ≤ (reelAt t k).risk)
def holdsB (t : Task) (done : List Int) (x : Lat) : Bool := !mixedB t.reels.length (-1) x.by' && (x.by'.all (byOk t done x.reel) && decide (countS t (x.by' ++ [x.reel]) ≤ x.by'.length))
end Go.Dw
/- J6: contracts: judged, Judge (telecineref04). -/
namespace Go.Dw
open Go Go.Dx Go.Proofs
set_option maxRecDepth 100000
structure Turn.Fit (x : Turn) : Prop where
  reel : I64 x.reel
  machine : I64 x.machine
  day : I64 x.day
theorem take_succ {α : Type} {l : List α} {k : Nat} (hk : k < l.length) : l.take (k + 1) = l.take k ++ [l[k]] := by
  rw [List.take_add_one, List.getElem?_eq_getElem hk]; rfl
end Go.Dw
/- J7: contracts: Judge of telecineref04; judge, Judge of rescue. -/
namespace Go.Dw
open Go Go.Dx Go.Proofs
set_option maxRecDepth 100000
def tup2 (x : Int × Int) : Value := .tuple ⟨[i64 x.1, i64 x.2]⟩
end Go.Dw
/- J8: contracts: judge, Judge of rescue. -/
namespace Go.Dw
open Go Go.Dx Go.Proofs
set_option maxRecDepth 100000
/-- Places: the machine, the day, the number. -/
noncomputable def placeK : KeyK Tryz.prog 121 (Int × Int × Int) where
  enc := fun p => .agg ⟨[i64 p.1, i64 p.2.1, i64 p.2.2]⟩
  ks := .struct [(.int .i64, 0), (.int .i64, 1), (.int .i64, 2)]
  hks := by kernel_rfl
  flat := fun _ => rfl
  ok := fun _ => rfl
  eq := fun a b => by
    obtain ⟨a1, a2, a3⟩ := a
    obtain ⟨b1, b2, b3⟩ := b
    show eqFs [(.int .i64, 0), (.int .i64, 1), (.int .i64, 2)] [i64 a1, i64 a2, i64 a3] [i64 b1, i64 b2, i64 b3] = _
    have e : ∀ x y : Int, (x == y) = decide (x = y) := fun _ _ => rfl
    simp only [eqFs, nth, Instr.sameNow, e]
    by_cases h1 : a1 = b1 <;> by_cases h2 : a2 = b2 <;> by_cases h3 : a3 = b3 <;> simp [h1, h2, h3]
  same := fun a => by simp [Instr.sameBits]
/-- The reels that have a turn, as an array. -/
def doneL (l : List Turn) : List Value := (List.range 24).map fun (i : Nat) => .bool (decide ((i : Int) ∈ l.map Turn.reel))
theorem mapB_ne {t : TypeId} {α : Type} [DecidableEq α] {P : Program} {K : KeyK P t α} {h : Heap} {b c : Nat} {l : List (α × Value)} {vs : List Value} {el : TypeId} {op : Bool} (hm : MapB K h b l) (hg : h.get c = some (.cells vs el op)) : c ≠ b := by
  rintro rfl
  obtain ⟨es, ck, h1, _⟩ := hm
  rw [h1] at hg; cases hg
/-- What judge comes to. -/
def judgeR (t : Task) (l : List Turn) (h : Heap) : VS → Prop := fun r =>
  if errS t ≠ 0 then ∃ h', r = .pan (errV (errS t)) h' ∧ Ext h h' else if judgedS t l ≠ 0 then ∃ h', r = .pan (errV (judgedS t l)) h' ∧ Ext h h' else ∃ h', r = .ret (.tuple ⟨[.agg ⟨doneL l⟩, i64 (leftS t l)]⟩) h' ∧ Ext h h'
end Go.Dw
/- J9: the contract of rescue.Judge. -/
namespace Go.Dw
open Go Go.Dx Go.Proofs
set_option maxRecDepth 100000
end Go.Dw
