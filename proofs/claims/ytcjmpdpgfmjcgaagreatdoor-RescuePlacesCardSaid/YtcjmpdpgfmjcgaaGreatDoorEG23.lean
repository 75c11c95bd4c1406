/- Z1: marks of reels; what is said of late reels, with no program in sight. -/
import Derived.Test.YtcjmpdpgfmjcgaaGreatDoorEG15
import Derived.Test.YtcjmpdpgfmjcgaaGreatDoorEG2
import Derived.Test.YtcjmpdpgfmjcgaaGreatDoorEG22
namespace Go.Dw
open Go Go.Dx Go.Proofs Go.Mt
/-- A number for each of n things. -/
def marks (n : Nat) (f : Nat → Int) : List Int := (List.range n).map f
theorem marks_len (n : Nat) (f : Nat → Int) : (marks n f).length = n := by unfold marks; rw [List.length_map, List.length_range]
theorem marks_set {n : Nat} {f : Nat → Int} {r : Nat} (v : Int) : (marks n f).set r v = marks n fun x => if x = r then v else f x := by
  unfold marks
  apply List.ext_getElem?
  intro i
  simp only [List.getElem?_set, List.getElem?_map, List.length_map, List.length_range]
  by_cases h : r = i
  · subst h
    by_cases hr : r < n
    · simp [hr]
    · simp [hr]
  · rw [if_neg h]
    by_cases hi : i < n
    · simp [hi, Ne.symm h]
    · simp [hi]
theorem late_by {t : Task} (hV : Valid t) {r : Nat} (hr : r ∈ lateN t) :
    (latOf t r).by'.Pairwise (· < ·) ∧ (∀ x ∈ (latOf t r).by', ∃ b : Nat, x = (b : Int) ∧ b < t.reels.length ∧ (b : Int) ∈ keptI t ∧ (reelAt t (r : Nat)).risk ≤ (reelAt t (b : Nat)).risk) ∧
    countS t ((latOf t r).reel :: (latOf t r).by') = ((latOf t r).by'.length : Nat) ∧ r < t.reels.length ∧ (r : Int) ∉ keptI t := by
  obtain ⟨h1, h2, h3, h4, h5⟩ := late_law hV hr
  refine ⟨sorted_lt (sortI_sorted _) (sortI_nodup (ints_nodup h1)), fun x hx => ?_, ?_, h4, fun h => h3 (mem_keptI.1 h)⟩
  · have hx : x ∈ sortI (ints (byOf t r)) := hx
    obtain ⟨b, hb, rfl⟩ := List.mem_map.1 (mem_sortI.1 hx)
    obtain ⟨g1, g2⟩ := h2 b hb
    exact ⟨b, rfl, goT_lt g1, mem_keptI.2 g1, g2⟩
  · have e : countS t ((latOf t r).reel :: (latOf t r).by') = countS t ((r : Int) :: ints (byOf t r)) := countS_congr fun k => by
      show k ∈ (r : Int) :: sortI (ints (byOf t r)) ↔ _
      rw [List.mem_cons, List.mem_cons, mem_sortI]
    rw [e, h5]
    show ((byOf t r).length : Int) = ((sortI (ints (byOf t r))).length : Nat)
    rw [sortI_len, ints_len]
theorem lateL_at {t : Task} {i : Nat} (hi : i < (lateL t).length) : ∃ h : i < (lateN t).length, (lateL t)[i] = latOf t (lateN t)[i] := by
  have h : i < (lateN t).length := by unfold lateL at hi; rwa [List.length_map] at hi
  exact ⟨h, by simp only [lateL, List.getElem_map]⟩
theorem pw_get {α : Type} {R : α → α → Prop} {l : List α} (h : l.Pairwise R) {i j : Nat} (hj : j < l.length) (hij : i < j) : R (l[i]'(Nat.lt_trans hij hj)) l[j] := List.pairwise_iff_getElem.1 h i j _ hj hij
/-- What is marked when all turns are. -/
theorem turns_kept {t : Task} (hV : Valid t) (x : Int) : x ∈ (turnsG t (keptS t)).map Turn.reel ↔ x ∈ keptI t := by
  rw [plan_reels hV, keptI_ints']
where
  keptI_ints' : ints (keptS t) = keptI t := by
    unfold ints keptS natsL
    rw [List.map_map]
    conv => rhs; rw [← List.map_id (keptI t)]
    exact List.map_congr_left fun x hx => Int.toNat_of_nonneg (keptI_in hx).1
theorem all_marked {t : Task} {r : Nat} (hr : r < t.reels.length) : (r : Int) ∈ keptI t ∨ (r : Int) ∈ (lateL t).map Lat.reel := by
  by_cases h : (r : Int) ∈ keptI t
  · exact .inl h
  · refine .inr ?_
    rw [lateL_reels, mem_ints]
    unfold lateN
    rw [List.mem_filter, List.mem_range]
    exact ⟨hr, by simp [h]⟩
end Go.Dw
/- Z3: RescuePlaces: its contract, for any workshop. -/
namespace Go.Dw
open Go Go.Dx Go.Proofs Go.Mt
set_option maxRecDepth 100000
theorem rep_marks (n : Nat) : rep n [i64 0] = (marks n fun _ => 0).map i64 := by
  apply List.ext_getElem?
  intro i
  have hl : (rep n [i64 0]).length = n := by rw [rep_length]; exact Nat.mul_one _
  by_cases hi : i < n
  · rw [rep_get _ _ _ (by show i < n * 1; omega)]
    show [i64 0][i % 1]? = _
    rw [Nat.mod_one]
    simp [marks, hi]
  · rw [List.getElem?_eq_none (by omega), List.getElem?_eq_none (by rw [List.length_map, marks_len]; omega)]
theorem marks_store {n r : Nat} {f : Nat → Int} (v : Int) : ((marks n f).map i64).set (0 + r * 1) (i64 v) = (marks n fun x => if x = r then v else f x).map i64 := by
  rw [Nat.zero_add, Nat.mul_one, ← List.map_set, marks_set]
theorem marks_cell {h : Heap} {b n r : Nat} {f : Nat → Int} {op : Bool} (hg : h.get b = some (.cells ((marks n f).map i64) 3 op)) (hr : r < n) : cellAt h b (0 + r * 1) = some (i64 (f r)) :=
  cellAt_cells hg (by rw [Nat.zero_add, Nat.mul_one, nth_eq]; simp [marks, hr])
theorem reels_take {l : List Turn} {k : Nat} (hk : k < l.length) {r : Nat} (hr : l[k].reel = (r : Int)) (x : Nat) : ((x : Int) ∈ (l.take (k + 1)).map Turn.reel) ↔ x = r ∨ (x : Int) ∈ (l.take k).map Turn.reel := by
  rw [take_succ hk, List.map_append, List.mem_append, List.map_singleton, List.mem_singleton, hr]
  constructor
  · rintro (g | g)
    · exact .inr g
    · exact .inl (by omega)
  · rintro (g | g)
    · exact .inr (by omega)
    · exact .inl g
theorem lates_take {l : List Lat} {k : Nat} (hk : k < l.length) {r : Nat} (hr : l[k].reel = (r : Int)) (x : Nat) : ((x : Int) ∈ (l.take (k + 1)).map Lat.reel) ↔ x = r ∨ (x : Int) ∈ (l.take k).map Lat.reel := by
  rw [take_succ hk, List.map_append, List.mem_append, List.map_singleton, List.mem_singleton, hr]
  constructor
  · rintro (g | g)
    · exact .inr g
    · exact .inl (by omega)
  · rintro (g | g)
    · exact .inr (by omega)
    · exact .inl g
theorem LatsAt.by' {h : Heap} {a : Option Addr} {l : List Lat} (hl : LatsAt h a l) {k : Nat} (hk : k < l.length) : ∃ b o oa ab cb, a = some ⟨b, o, oa⟩ ∧ cellAt h b (o + k * 2 + 0) = some (i64 l[k].reel) ∧ cellAt h b (o + k * 2 + 1) = some (.slice ab l[k].by'.length cb) ∧ SrcAt i64 h ab l[k].by' := by
  obtain ⟨b, o, oa, ab, cb, e, h1, h2, h3⟩ := hl.at hk
  exact ⟨b, o, oa, ab, cb, e, h2, cell_of_row h1 rfl, h3⟩
set_option maxHeartbeats 8000000 in
theorem rescuePlaces_sv {tc : List Value} {t : Task} {h : Heap} (ht : TaskAt h tc t) (hf : t.Fit) :
    Sv Tryz.prog 10 [.agg ⟨tc⟩] h (RetP fun v h' => v = .bool true ∧ Ext h h') := by
  have ht0 := ht
  obtain ⟨am, cm, ar, cr, rfl, hM, hR⟩ := ht
  obtain ⟨hl1, hl2, hl3⟩ := plan_lens t
  refine Sv_wf fun hw => ?_
  refine Sv_enter Tryz.func10 rfl (by rw [Tryz.ntmps10]; rfl) ?_; show Wc Tryz.prog ⟨10, 225, none⟩ _ _ _ _ _
  refine zz ?_
  refine Wo_box rfl rfl rfl fun h1 hE1 hW1 hg1 hn1 => ?_
  refine zz ?_
  refine Wo_callr rfl rfl rfl rfl rfl Bod.h rfl rfl (rescuePlan_sv (ht0.ext hE1) hf) ?_
  rintro _ h2 ⟨⟨a, al, rfl, hT, hL⟩, hE2⟩
  replace hg1 := hE2.get hg1
  replace hE1 := hE1.trans hE2
  refine zz ?_
  refine Wo_callE rfl rfl rfl rfl rfl Bod.h rfl rfl (refCheck_sv (ht0.ext hE1) hf) fun h3 hE3 => ?_
  replace hg1 := hE3.get hg1
  replace hE1 := hE1.trans hE3
  replace hT := hT.ext hE3
  replace hL := hL.ext hE3
  unfold tup3
  clear hE2 hE3 hW1 hn1
  clear h2
  clear h1
  refine zz ?_
  by_cases c0 : errS t = 0
  rotate_left
  · rw [planS_bad c0]
    refine Wo_do rfl rfl rfl rfl (A_tt c0 (A_neq rfl rfl)) ?_
    refine zz ?_
    refine Wo_do rfl rfl rfl rfl (A_tt rfl (A_eql rfl rfl)) ?_
    refine zz ?_
    refine Wo_callV rfl rfl rfl rfl rfl Bod.h rfl rfl (awake_sv _) ?_
    refine zz ?_
    exact Wc_ret (Lv_ret rfl ⟨rfl, hE1⟩)
  have hV := valid_of c0
  have hc3 : (checkS t).2.2 = 0 := c0
  have hr1 := hV.r1
  rw [planS_ok c0] at hT hL hl1 hl2 hl3 ⊢
  replace hl1 : (turnsG t (keptS t)).length ≤ 24 := hl1
  replace hl2 : (lateL t).length ≤ 24 := hl2
  replace hT : TurnsAt h3 a (turnsG t (keptS t)) := hT
  replace hL : LatsAt h3 al (lateL t) := hL
  refine Wo_do rfl rfl rfl rfl (A_ff (fun x => x rfl) (A_neq rfl rfl)) ?_
  refine zz ?_
  refine Wo_do rfl rfl rfl rfl (A_ff (fun x => x hc3) (A_neq rfl rfl)) ?_
  refine zz ?_
  refine Wo_wf fun hw3 => ?_
  refine Wo_makeSlice (k := t.reels.length) rfl rfl Und.h (by' := 8) inferInstance Zr.h rfl rfl rfl (by omega) (by omega) fun h4 hE4 hW4 hg4 hx4 => ?_
  replace hg4 : h4.get h3.nx = some (.cells ((marks t.reels.length fun _ => 0).map i64) 3 false) := by rw [← rep_marks]; exact hg4
  have hb3 : ∀ c o, h3.get c = some o → c ≠ h3.nx := fun c o hg e => by have := hw3 _ _ hg; omega
  have hbx : h.nx ≠ h3.nx := hb3 _ _ hg1
  refine zz ?_
  have hTk := turns_kept hV
  show Wc _ _ _ _ _ _ _
  generalize turnsG t (keptS t) = T at *
  refine Wc_loop (fun (k : Nat) m ds h' => ds = [] ∧ k ≤ T.length ∧ Exb (fun c => c = h3.nx) h4 h' ∧ (∃ f : Nat → Int, h'.get h3.nx = some (.cells ((marks t.reels.length f).map i64) 3 false) ∧ ∀ x : Nat, f x = if (x : Int) ∈ (T.take k).map Turn.reel then 1 else 0) ∧
      AllK m [(1, ptr h.nx), (3, .slice a T.length T.length), (4, .slice al (lateL t).length (lateL t).length), (9, .slice (some ⟨h3.nx, 0, none⟩) t.reels.length t.reels.length), (10, i64 k)]) (fun k => T.length - k) 0 ?_ ?_
  · exact ⟨rfl, Nat.zero_le _, Exb.refl _ _, ⟨_, hg4, fun x => rfl⟩, rfl, rfl, rfl, rfl, rfl, trivial⟩
  rintro k m ds h5 ⟨rfl, hk, hX, ⟨f, hgb, hfk⟩, hall⟩
  refine Wc_wf fun hw5 => ?_
  have hE35 : Ext h3 h5 := hX.ext hE4 hw3 fun c e => by omega
  refine Wc.le ?_ (Le.kn hall)
  refine zz ?_
  refine Wo_dec rfl rfl rfl rfl (A_lss rfl rfl) (fun hkq => ?_) (fun hkq => ?_)
  · have hk' : k < T.length := by omega
    obtain ⟨bt, ot, oat, rfl, _, hcr, _⟩ := (hT.ext hE35).at hk'
    have hmem := (hTk _).1 (List.mem_map_of_mem (f := Turn.reel) (List.getElem_mem hk'))
    obtain ⟨r0, r1⟩ := keptI_in hmem
    obtain ⟨r, hre⟩ : ∃ r : Nat, T[k].reel = (r : Int) := ⟨T[k].reel.toNat, by omega⟩
    rw [hre] at hcr r1 r0
    refine zz ?_
    refine Wo_do rfl rfl rfl rfl (A_ix Und.h Tsz.h rfl rfl) ?_
    refine zz ?_
    refine Wo_do rfl rfl rfl rfl (A_ff (by omega) (A_lss rfl rfl)) ?_
    refine zz ?_
    refine Wo_do rfl rfl rfl rfl (A_ix Und.h Tsz.h rfl rfl) ?_
    refine zz ?_
    refine Wo_do rfl rfl rfl rfl (A_ff (by omega) (A_geq rfl rfl)) ?_
    refine zz ?_
    refine Wo_do rfl rfl rfl rfl (A_ix Und.h Tsz.h rfl rfl) ?_
    refine zz ?_
    refine Wo_do rfl rfl rfl rfl (A_ix Und.h Tsz.h rfl rfl) ?_
    refine Wo_store rfl Tsz.h rfl rfl hgb rfl rfl (lay_one (show 0 + r * 1 < ((marks t.reels.length f).map i64).length by rw [List.length_map, marks_len]; omega)) fun h6 hU6 => ?_
    have hg6 := hU6.at'
    rw [marks_store] at hg6
    refine zz ?_
    refine ⟨k + 1, (by show T.length - (k + 1) < T.length - k; omega), rfl, hk', hX.upd hU6 rfl, ⟨_, hg6, fun x => ?_⟩, rfl, rfl, rfl, rfl, rfl, trivial⟩
    rw [hfk x]
    simp only [reels_take hk' hre]
    by_cases e : x = r
    · rw [if_pos e, if_pos (.inl e)]
    · rw [if_neg e]
      by_cases g : (x : Int) ∈ (T.take k).map Turn.reel
      · rw [if_pos g, if_pos (.inr g)]
      · rw [if_neg g, if_neg (fun h => h.elim e g)]
  have : k = T.length := by omega
  subst this
  rw [List.take_length] at hfk
  have hfk2 : ∀ x : Nat, f x = if (x : Int) ∈ keptI t then 1 else 0 := fun x => by
    rw [hfk x]; simp only [hTk]
  clear hfk hall hkq hk
  refine zz ?_
  refine Wc_loop (fun (k : Nat) m ds h' => ds = [] ∧ k ≤ (lateL t).length ∧ Exb (fun c => c = h3.nx) h4 h' ∧ (∃ f : Nat → Int, h'.get h3.nx = some (.cells ((marks t.reels.length f).map i64) 3 false) ∧ ∀ x : Nat, f x = if (x : Int) ∈ keptI t then 1 else if (x : Int) ∈ ((lateL t).take k).map Lat.reel then 2 else 0) ∧
      AllK m [(1, ptr h.nx), (4, .slice al (lateL t).length (lateL t).length), (9, .slice (some ⟨h3.nx, 0, none⟩) t.reels.length t.reels.length), (11, i64 k)]) (fun k => (lateL t).length - k) 0 ?_ ?_
  · exact ⟨rfl, Nat.zero_le _, hX, ⟨_, hgb, hfk2⟩, rfl, rfl, rfl, rfl, trivial⟩
  clear hX hgb hfk2 hE35 hw5
  clear f h5 m
  rintro k m ds h5 ⟨rfl, hk, hX, ⟨f, hgb, hfk⟩, hall⟩
  refine Wc_wf fun hw5 => ?_
  have hE35 : Ext h3 h5 := hX.ext hE4 hw3 fun c e => by omega
  refine Wc.le ?_ (Le.kn hall)
  refine zz ?_
  refine Wo_dec rfl rfl rfl rfl (A_lss rfl rfl) (fun hkq => ?_) (fun hkq => ?_)
  · have hk' : k < (lateL t).length := by omega
    obtain ⟨hkN, hLk⟩ := lateL_at hk'
    obtain ⟨_, _, _, hrl, hrk⟩ := late_by hV (List.getElem_mem hkN)
    obtain ⟨r, hre⟩ : ∃ r : Nat, r = (lateN t)[k] := ⟨_, rfl⟩
    rw [← hre] at hLk hrl hrk
    have hre2 : (lateL t)[k].reel = (r : Int) := by rw [hLk]; rfl
    obtain ⟨bl, ol, oal, abl, cbl, rfl, hcr, hcb, hB⟩ := (hL.ext hE35).by' hk'
    rw [hre2] at hcr
    have hpw := lateN_pw t
    have hnt : (r : Int) ∉ ((lateL t).take k).map Lat.reel := fun hm => by
      obtain ⟨y, hy, e⟩ := List.mem_map.1 hm
      obtain ⟨j, hj, rfl⟩ := List.getElem_of_mem hy
      rw [List.length_take] at hj
      rw [List.getElem_take] at e
      obtain ⟨hjN, hLj⟩ := lateL_at (t := t) (i := j) (by omega)
      rw [hLj] at e
      have e : (((lateN t)[j] : Nat) : Int) = (r : Int) := e
      have := pw_get hpw hkN (show j < k by omega)
      omega
    have hf0 : f r = 0 := by rw [hfk, if_neg hrk, if_neg hnt]
    have hcs := marks_cell hgb hrl
    rw [hf0] at hcs
    refine zz ?_
    refine Wo_do rfl rfl rfl rfl (A_ix Und.h Tsz.h rfl rfl) ?_
    refine zz ?_
    refine Wo_do rfl rfl rfl rfl (A_ff (by omega) (A_lss rfl rfl)) ?_
    refine zz ?_
    refine Wo_do rfl rfl rfl rfl (A_ff (by omega) (A_geq rfl rfl)) ?_
    refine zz ?_
    refine Wo_do rfl rfl rfl rfl (A_ix Und.h Tsz.h rfl rfl) ?_
    refine zz ?_
    refine Wo_do rfl rfl rfl rfl (A_ff (fun x => x rfl) (A_neq rfl rfl)) ?_
    have hfin : ∀ x : Nat, (if x = r then 2 else f x) = if (x : Int) ∈ keptI t then 1 else if (x : Int) ∈ ((lateL t).take (k + 1)).map Lat.reel then 2 else 0 := fun x => by
      rw [hfk x]
      simp only [lates_take hk' hre2]
      by_cases e : x = r
      · subst e; rw [if_pos rfl, if_neg hrk, if_pos (.inl rfl)]
      · rw [if_neg e]
        by_cases g : (x : Int) ∈ keptI t
        · rw [if_pos g, if_pos g]
        · rw [if_neg g, if_neg g]
          by_cases g2 : (x : Int) ∈ ((lateL t).take k).map Lat.reel
          · rw [if_pos g2, if_pos (.inr g2)]
          · rw [if_neg g2, if_neg (fun h => h.elim e g2)]
    rcases Nat.eq_zero_or_pos k with hk0 | hk0
    · refine zz ?_
      refine Wo_do rfl rfl rfl rfl (A_ff (by omega) (A_gtr rfl rfl)) ?_
      refine zz ?_
      refine Wo_do rfl rfl rfl rfl (A_ix Und.h Tsz.h rfl rfl) ?_
      refine Wo_store rfl Tsz.h rfl rfl hgb rfl rfl (lay_one (show 0 + r * 1 < ((marks t.reels.length f).map i64).length by rw [List.length_map, marks_len]; omega)) fun h6 hU6 => ?_
      have hg6 := hU6.at'
      rw [marks_store] at hg6
      refine zz ?_
      exact ⟨k + 1, (by show (lateL t).length - (k + 1) < (lateL t).length - k; omega), rfl, hk', hX.upd hU6 rfl, ⟨_, hg6, hfin⟩, rfl, rfl, rfl, rfl, trivial⟩
    · obtain ⟨hkP, hLp⟩ := lateL_at (t := t) (i := k - 1) (by omega)
      have hpp := pw_get hpw hkN (show k - 1 < k by omega)
      have hre3 : (lateL t)[k - 1].reel = (((lateN t)[k - 1] : Nat) : Int) := by rw [hLp]; rfl
      obtain ⟨bl', ol', oal', abl', cbl', ebl, hcp, _, _⟩ := (hL.ext hE35).by' (k := k - 1) (by omega)
      cases ebl
      rw [hre3] at hcp
      refine zz ?_
      refine Wo_do rfl rfl rfl rfl (A_tt (by omega) (A_gtr rfl rfl)) ?_
      refine zz ?_
      refine Wo_do rfl rfl rfl rfl (A_ix (k := k - 1) Und.h Tsz.h rfl (by show some (i64 ((k : Int) - 1)) = some (i64 ((k - 1 : Nat) : Int)); congr 2; omega) (by omega)) ?_
      refine zz ?_
      refine Wo_do rfl rfl rfl rfl (A_ff (by omega) (A_leq rfl rfl)) ?_
      refine zz ?_
      refine Wo_do rfl rfl rfl rfl (A_ix Und.h Tsz.h rfl rfl) ?_
      refine Wo_store rfl Tsz.h rfl rfl hgb rfl rfl (lay_one (show 0 + r * 1 < ((marks t.reels.length f).map i64).length by rw [List.length_map, marks_len]; omega)) fun h6 hU6 => ?_
      have hg6 := hU6.at'
      rw [marks_store] at hg6
      refine zz ?_
      exact ⟨k + 1, (by show (lateL t).length - (k + 1) < (lateL t).length - k; omega), rfl, hk', hX.upd hU6 rfl, ⟨_, hg6, hfin⟩, rfl, rfl, rfl, rfl, trivial⟩
  have : k = (lateL t).length := by omega
  subst this
  rw [List.take_length] at hfk
  have hf1 : ∀ x : Nat, (x : Int) ∈ keptI t → f x = 1 := fun x hx => by rw [hfk x, if_pos hx]
  have hf2 : ∀ x : Nat, x < t.reels.length → f x ≠ 0 := fun x hx => by
    rw [hfk x]
    split
    · decide
    · rename_i g
      rw [if_pos ((all_marked hx).resolve_left g)]; decide
  have hE05 := hE1.trans hE35
  replace hg1 := hE35.get hg1
  replace hL := hL.ext hE35
  refine zz ?_
  clear hfk hall hkq hk hX hE35 hE1 hg4 hx4 hT hTk hb3 hW4 hE4 hl1 hw3
  generalize h3.nx = bs at *
  clear h4 h3 m
  refine Wc_loop (fun (i : Nat) m ds h' => ds = [] ∧ i ≤ (lateL t).length ∧ Ext h5 h' ∧ AllK m [(1, ptr h.nx), (4, .slice al (lateL t).length (lateL t).length), (9, .slice (some ⟨bs, 0, none⟩) t.reels.length t.reels.length), (13, i64 i)]) (fun i => (lateL t).length - i) 0 ?_ ?_
  · exact ⟨rfl, Nat.zero_le _, Ext.refl _, rfl, rfl, rfl, rfl, trivial⟩
  rintro i m ds h6 ⟨rfl, hi, hE6, hall⟩
  refine Wc_wf fun hw6 => ?_
  refine Wc.le ?_ (Le.kn hall)
  refine zz ?_
  refine Wo_dec rfl rfl rfl rfl (A_lss rfl rfl) (fun hip => ?_) (fun hip => ?_)
  rotate_left
  · refine zz ?_
    refine Wc_loop (fun (i : Nat) m ds h' => ds = [] ∧ i ≤ t.reels.length ∧ h6 = h' ∧ AllK m [(9, .slice (some ⟨bs, 0, none⟩) t.reels.length t.reels.length), (17, i64 i)]) (fun i => t.reels.length - i) 0 ?_ ?_
    · exact ⟨rfl, Nat.zero_le _, rfl, rfl, rfl, trivial⟩
    rintro i m ds _ ⟨rfl, hi, rfl, hall⟩
    refine Wc.le ?_ (Le.kn hall)
    refine zz ?_
    refine Wo_dec rfl rfl rfl rfl (A_lss rfl rfl) (fun hip => ?_) (fun hip => ?_)
    · have hi' : i < t.reels.length := by omega
      have hcs := marks_cell (hE6.get hgb) hi'
      refine zz ?_
      refine Wo_do rfl rfl rfl rfl (A_ix Und.h Tsz.h rfl rfl) ?_
      refine zz ?_
      refine Wo_do rfl rfl rfl rfl (A_ff (hf2 i hi') (A_eql rfl rfl)) ?_
      refine zz ?_
      exact ⟨i + 1, (by show t.reels.length - (i + 1) < t.reels.length - i; omega), rfl, hi', rfl, rfl, rfl, trivial⟩
    refine zz ?_
    refine Wo_callV rfl rfl rfl rfl rfl Bod.h rfl rfl (awake_sv _) ?_
    refine zz ?_
    exact Wc_ret (Lv_ret rfl ⟨rfl, hE05.trans hE6⟩)
  have hi' : i < (lateL t).length := by omega
  obtain ⟨hiN, hLi⟩ := lateL_at hi'
  obtain ⟨hpb, hby, hcnt, hrl, hrk⟩ := late_by hV (List.getElem_mem hiN)
  have hfit := hl3 _ (List.getElem_mem hi')
  obtain ⟨r, hre⟩ : ∃ r : Nat, r = (lateN t)[i] := ⟨_, rfl⟩
  rw [← hre] at hLi hrl hrk hby hcnt hpb
  have hre2 : (lateL t)[i].reel = (r : Int) := by rw [hLi]; rfl
  obtain ⟨bl, ol, oal, abl, cbl, rfl, hcr, hcb, hB⟩ := hL.by' hi'
  have hre3 : (latOf t r).reel = (r : Int) := rfl
  rw [hLi] at hB hcb hfit
  rw [hre2] at hcr
  rw [hre3] at hcnt
  have hbylen := hfit.len
  generalize (latOf t r).by' = B at *
  have hBl : B.length ≤ 24 := by
    have h1 : B.Nodup := hpb.imp fun h => by omega
    have := nodup_le (l := natsL B) (m := List.range t.reels.length) (natsL_nodup h1 fun x hx => by obtain ⟨b, rfl, _⟩ := hby x hx; omega) fun x hx => by
      obtain ⟨y, hy, rfl⟩ := List.mem_map.1 hx
      obtain ⟨b, rfl, hb, _⟩ := hby y hy
      rw [List.mem_range]; simpa using hb
    rw [List.length_range] at this
    unfold natsL at this
    rw [List.length_map] at this
    omega
  have hcr6 := hE6.cell hcr
  refine zz ?_
  refine Wo_do rfl rfl rfl rfl (A_ix Und.h Tsz.h rfl rfl) ?_
  refine zz ?_
  refine Wo_bs rfl rfl Und.h Tsz.h Zr.h rfl rfl rfl rfl rfl fun h7 hE7 hW7 hg7 hx7 => ?_
  have hE57 := hE6.trans hE7
  have hF7 : FreshSl h5 h7 (.slice (some ⟨h6.nx, 0, none⟩) 1 1) 3 1 (((r : Int) :: B.take 0).map i64) ((r : Int) :: B.take 0).length := FreshSl.lit (n := 1) (sz := 1) (cs := [i64 (r : Int)]) hg7 rfl hE6.2.1
  refine zz ?_
  refine Wc_loop (fun (k : Nat) m ds h' => ds = [] ∧ k ≤ B.length ∧ Ext h5 h' ∧ ∃ v, FreshSl h5 h' v 3 1 (((r : Int) :: B.take k).map i64) ((r : Int) :: B.take k).length ∧ AllK m [(1, ptr h.nx), (4, .slice (some ⟨bl, ol, oal⟩) (lateL t).length (lateL t).length), (9, .slice (some ⟨bs, 0, none⟩) t.reels.length t.reels.length), (13, i64 i), (14, v), (15, i64 k)]) (fun k => B.length - k) 0 ?_ ?_
  · exact ⟨rfl, Nat.zero_le _, hE57, _, hF7, rfl, rfl, rfl, rfl, rfl, rfl, trivial⟩
  clear hE57 hF7 hE7 hW7 hg7 hx7 hall hE6 hcr6 hw6
  clear h7 h6 m
  rintro k m ds h7 ⟨rfl, hk, hE7, v, hF, hall⟩
  refine Wc_wf fun hw7 => ?_
  refine Wc.le ?_ (Le.kn hall)
  have hcb7 := hE7.cell hcb
  have hg17 := hE7.get hg1
  have hE07 := hE05.trans hE7
  have hRr : InR t ((r : Int) :: B) := fun y hy => by
    rcases List.mem_cons.1 hy with e | g
    · rw [e]; omega
    · obtain ⟨b, rfl, hb, _⟩ := hby y g; omega
  refine zz ?_
  refine Wo_do rfl rfl rfl rfl (A_ix Und.h Tsz.h rfl rfl) ?_
  refine zz ?_
  refine Wo_dec rfl rfl rfl rfl (A_lss rfl rfl) (fun hkq => ?_) (fun hkq => ?_)
  rotate_left
  · have hkk : k = B.length := by omega
    subst hkk
    rw [List.take_length] at hF
    obtain ⟨av, rfl, _, hsv⟩ := hF.srcAt
    have hcnt' := refCount_sv (cap := ((r : Int) :: B).length) (ht0.ext hE07) hf hV hsv.1 (by unfold Len; simp only [List.length_cons]; omega) hRr
    rw [hcnt] at hcnt'
    refine zz ?_
    refine Wc_draw hmix [0, 0, 3, 0, 0, 24, 56, 120, 248, 511] [0, 1, 3, 4, 5, 6, 7, 8] (some 2) [([9], none)] (by kernel_rfl) (by kernel_rfl) ?_
    refine z_r ?_; refine z_m ?_; refine z_m ?_; refine z_m ?_; refine z_i ?_; refine z_f ?_; refine z_l ?_; refine z_c ?_
    refine Wp_eff [0, 1] (by kernel_rfl) rfl (Stl_nil rfl) rfl nb rfl (W1_callE rfl rfl rfl rfl rfl Bod.h hcnt' (fun h8 hE8 => ?_))
    have hcb8 := hE8.cell hcb7
    refine Wp_pure rfl rfl rfl rfl rfl (fun _ => A_ff (fun x => x rfl) (A_neq rfl rfl)) ?_
    refine Wp_end (by refine t_c 8 ?_; refine t_l 7 ?_; refine t_f 6 ?_; refine t_i 5 ?_; refine t_m 4 ?_; refine t_m 3 ?_; exact Stl_nil rfl) nb' ?_
    refine zz ?_
    exact ⟨i + 1, (by show (lateL t).length - (i + 1) < (lateL t).length - i; omega), rfl, hi', hE7.trans hE8, rfl, rfl, rfl, rfl, trivial⟩
  have hk' : k < B.length := by omega
  obtain ⟨b, hbe, hbl, hbk, hbr⟩ := hby _ (List.getElem_mem hk')
  obtain ⟨bb, ob, oab, rfl, hcB⟩ := (hB.1.ext hE7) k hk'
  rw [hbe] at hcB
  have hcs := marks_cell (hE7.get hgb) hbl
  rw [hf1 b hbk] at hcs
  obtain ⟨bR, oR, oaR, _, _, rfl, _, _, hcb4⟩ := reelRow (RowsAt.ext (R := ReelAt) (fun x y => ReelAt.ext x y) hR hE07) hbl
  obtain ⟨bR', oR', oaR', _, _, eR, _, _, hcr4⟩ := reelRow (RowsAt.ext (R := ReelAt) (fun x y => ReelAt.ext x y) hR hE07) hrl
  cases eR
  have hcr7 := hE7.cell hcr
  have hsucc : ∀ v' h', FreshSl h5 h' v' 3 1 (((r : Int) :: B.take k).map i64 ++ [i64 (b : Int)]) (((r : Int) :: B.take k).length + 1) → FreshSl h5 h' v' 3 1 (((r : Int) :: B.take (k + 1)).map i64) ((r : Int) :: B.take (k + 1)).length := fun v' h' hF' => by
    rw [take_succ hk', hbe, ← List.cons_append, List.map_append, List.length_append]
    exact hF'
  refine zz ?_
  refine Wo_do rfl rfl rfl rfl (A_ix Und.h Tsz.h rfl rfl) ?_
  refine zz ?_
  refine Wo_do rfl rfl rfl rfl (A_ix Und.h Tsz.h rfl rfl) ?_
  refine zz ?_
  rcases Nat.eq_zero_or_pos k with hk0 | hk0
  · refine Wc_draw hmix [0, 1, 3, 7, 7, 23, 63, 127, 255, 511, 511, 2047, 4095, 8191, 16383, 32767, 65535, 131071, 65535, 524287, 1048575, 2097151, 65535, 4259839, 65535, 65535, 50397183, 117506047, 251723775, 532742143, 1069613055, 2143354879, 4294967295, 8589934591, 17179869183, 34359738367, 68719476735, 137438953471, 274877906943, 274877906943, 274877906943, 1924145348607, 4123168604159, 8521215115263, 274877906943, 17867063951359, 70093866270719, 140462610448383, 281474976710655, 562949953421311, 1125899906842623] [0, 1, 2, 3, 4, 5, 6, 7, 8, 9, 10, 11, 12, 13, 14, 15, 16, 17, 18, 19, 20, 21, 22, 23, 24, 25, 26, 27, 28, 29, 30, 31, 32, 33, 34, 35, 36, 37, 38, 39, 40, 41, 42, 43, 44, 45, 46, 47, 48, 49, 50] none [] (by kernel_rfl) (by kernel_rfl) ?_
    refine z_m ?_; refine Wp_pure rfl rfl rfl rfl rfl (fun _ => A_ff (by omega) (A_lss rfl rfl)) ?_; refine z_m ?_; refine g_m ?_; refine g_m ?_; refine g_c ?_
    first | refine Wp_off rfl rfl rfl rfl ?_ | refine Wp_pure rfl rfl rfl rfl rfl (fun _ => A_ff (by omega) (A_geq rfl rfl)) ?_
    refine z_p ?_; refine z_m ?_; refine g_m ?_; refine g_m ?_; refine g_i ?_; refine g_l ?_
    first | refine Wp_off rfl rfl rfl rfl ?_ | refine Wp_pure rfl rfl rfl rfl rfl (fun _ => A_ff (fun x => x rfl) (A_neq rfl rfl)) ?_
    refine z_p ?_; refine z_m ?_; refine g_f ?_; refine g_l ?_; refine g_m ?_; refine g_i ?_; refine g_f ?_; refine g_l ?_; refine g_f ?_; refine g_l ?_; refine g_m ?_; refine g_m ?_; refine g_i ?_; refine g_f ?_; refine g_l ?_; refine g_i ?_; refine g_f ?_; refine g_l ?_
    first | refine Wp_off rfl rfl rfl rfl ?_ | refine Wp_pure rfl rfl rfl rfl rfl (fun _ => A_ff (by omega) (A_lss rfl rfl)) ?_
    refine z_p ?_; refine z_m ?_; refine g_m ?_
    first | refine Wp_off rfl rfl rfl rfl ?_ | refine Wp_pure rfl rfl rfl rfl rfl (fun _ => A_ff (by omega) (A_gtr rfl rfl)) ?_
    refine g_m ?_; refine g_m ?_; refine g_m ?_; refine g_m ?_; refine g_i ?_; refine g_f ?_; refine g_l ?_; refine g_m ?_; refine g_u ?_; refine g_i ?_; refine g_l ?_; refine z_o ?_; refine g_p ?_; refine z_p ?_
    refine Wp_end (Stl_nil rfl) nb' ?_
    refine zz ?_
    refine Wo_bs rfl rfl Und.h Tsz.h Zr.h rfl rfl rfl rfl rfl fun h8 hE8 hW8 hg8 hx8 => ?_
    refine zz ?_
    refine Wo_appendF (by' := 8) (k := 1) (n := ((r : Int) :: B.take k).length) (l := [i64 (b : Int)]) hw5 (hE7.trans hE8) rfl rfl rfl rfl rfl Und.h inferInstance rfl rfl (hF.ext hE8) ((FreshSl.lit (h0 := h5) (n := 1) (sz := 1) (cs := [i64 (b : Int)]) hg8 rfl hE7.2.1).src (dd := .slice 3) Und.h (by intro k; simp)) rfl rfl (by simp only [List.length_cons, List.length_take]; omega) (by simp only [List.length_cons, List.length_take]; omega) fun v9 h9 hF9 hE9 hK9 hx9 hv9 => ?_
    refine zz ?_
    exact ⟨k + 1, (by show B.length - (k + 1) < B.length - k; omega), rfl, hk', hE9, v9, hsucc v9 h9 hF9, rfl, rfl, rfl, rfl, rfl, rfl, trivial⟩
  · obtain ⟨bb', ob', oab', eb', hcB1⟩ := (hB.1.ext hE7) (k - 1) (by omega)
    cases eb'
    have hprev := pw_get hpb hk' (show k - 1 < k by omega)
    rw [hbe] at hprev
    refine Wc_draw hmix [0, 1, 3, 7, 7, 23, 63, 127, 255, 511, 511, 2047, 4095, 8191, 16383, 32767, 65535, 131071, 65535, 524287, 1048575, 2097151, 65535, 4259839, 65535, 65535, 50397183, 117506047, 251723775, 532742143, 1069613055, 2143354879, 4294967295, 8589934591, 17179869183, 34359738367, 68719476735, 137438953471, 274877906943, 274877906943, 274877906943, 1924145348607, 4123168604159, 8521215115263, 274877906943, 17867063951359, 70093866270719, 140462610448383, 281474976710655, 562949953421311, 1125899906842623] [0, 1, 2, 3, 4, 5, 6, 7, 8, 9, 10, 11, 12, 13, 14, 15, 16, 17, 18, 19, 20, 21, 22, 23, 24, 25, 26, 27, 28, 29, 30, 31, 32, 33, 34, 35, 36, 37, 38, 39, 40, 41, 42, 43, 44, 45, 46, 47, 48, 49, 50] none [] (by kernel_rfl) (by kernel_rfl) ?_
    refine z_m ?_; refine Wp_pure rfl rfl rfl rfl rfl (fun _ => A_ff (by omega) (A_lss rfl rfl)) ?_; refine z_m ?_; refine g_m ?_; refine g_m ?_; refine g_c ?_
    first | refine Wp_off rfl rfl rfl rfl ?_ | refine Wp_pure rfl rfl rfl rfl rfl (fun _ => A_ff (by omega) (A_geq rfl rfl)) ?_
    refine z_p ?_; refine z_m ?_; refine g_m ?_; refine g_m ?_; refine g_i ?_; refine g_l ?_
    first | refine Wp_off rfl rfl rfl rfl ?_ | refine Wp_pure rfl rfl rfl rfl rfl (fun _ => A_ff (fun x => x rfl) (A_neq rfl rfl)) ?_
    refine z_p ?_; refine z_m ?_; refine g_f ?_; refine g_l ?_; refine g_m ?_; refine g_i ?_; refine g_f ?_; refine g_l ?_; refine g_f ?_; refine g_l ?_; refine g_m ?_; refine g_m ?_; refine g_i ?_; refine g_f ?_; refine g_l ?_; refine g_i ?_; refine g_f ?_; refine g_l ?_
    first | refine Wp_off rfl rfl rfl rfl ?_ | refine Wp_pure rfl rfl rfl rfl rfl (fun _ => A_ff (by omega) (A_lss rfl rfl)) ?_
    refine z_p ?_; refine z_m ?_; refine g_m ?_
    first | refine Wp_off rfl rfl rfl rfl ?_ | refine Wp_pure rfl rfl rfl rfl rfl (fun _ => A_tt (by omega) (A_gtr rfl rfl)) ?_
    refine g_m ?_; refine g_m ?_; refine g_m ?_; refine g_m ?_; refine g_i ?_; refine g_f ?_; refine g_l ?_; refine g_m ?_; refine g_u ?_
    first | refine Wp_off rfl rfl rfl rfl ?_ | refine Wp_pure rfl rfl rfl rfl rfl (fun _ => A_ix (k := k - 1) Und.h Tsz.h rfl (by show some (i64 ((k : Int) - 1)) = some (i64 ((k - 1 : Nat) : Int)); congr 2; omega) (by omega)) ?_
    refine g_l ?_
    first | refine Wp_off rfl rfl rfl rfl ?_ | refine Wp_pure rfl rfl rfl rfl rfl (fun _ => A_ff (by omega) (A_leq rfl rfl)) ?_
    refine g_p ?_; refine z_p ?_
    refine Wp_end (Stl_nil rfl) nb' ?_
    refine zz ?_
    refine Wo_bs rfl rfl Und.h Tsz.h Zr.h rfl rfl rfl rfl rfl fun h8 hE8 hW8 hg8 hx8 => ?_
    refine zz ?_
    refine Wo_appendF (by' := 8) (k := 1) (n := ((r : Int) :: B.take k).length) (l := [i64 (b : Int)]) hw5 (hE7.trans hE8) rfl rfl rfl rfl rfl Und.h inferInstance rfl rfl (hF.ext hE8) ((FreshSl.lit (h0 := h5) (n := 1) (sz := 1) (cs := [i64 (b : Int)]) hg8 rfl hE7.2.1).src (dd := .slice 3) Und.h (by intro k; simp)) rfl rfl (by simp only [List.length_cons, List.length_take]; omega) (by simp only [List.length_cons, List.length_take]; omega) fun v9 h9 hF9 hE9 hK9 hx9 hv9 => ?_
    refine zz ?_
    exact ⟨k + 1, (by show B.length - (k + 1) < B.length - k; omega), rfl, hk', hE9, v9, hsucc v9 h9 hF9, rfl, rfl, rfl, rfl, rfl, rfl, trivial⟩
end Go.Dw
