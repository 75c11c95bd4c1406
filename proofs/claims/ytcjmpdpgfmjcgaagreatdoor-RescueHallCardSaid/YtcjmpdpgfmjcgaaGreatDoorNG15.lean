/- L1: RescueChecks: its contract, for any workshop. -/
import Derived.Test.YtcjmpdpgfmjcgaaGreatDoorNG5
import Derived.Test.YtcjmpdpgfmjcgaaGreatDoorNRunA
import Derived.Test.YtcjmpdpgfmjcgaaGreatDoorNG2
import Derived.Test.YtcjmpdpgfmjcgaaGreatDoorNG13
import Derived.Test.YtcjmpdpgfmjcgaaGreatDoorNG14
namespace Go.Dw
open Go Go.Dx Go.Proofs
set_option maxRecDepth 100000
theorem awake_sv (h : Heap) : Sv Tryz.prog 21 [] h (RetP fun v h' => v = .bool true ∧ h' = h) := Sv_orc Go.Dx.awake h
/-! ### reading a workshop -/
theorem cells_ty : Tryz.prog.cellsOf 3 = 1 ∧ Tryz.prog.cellsOf 9 = 1 ∧ Tryz.prog.cellsOf 22 = 1 ∧ Tryz.prog.cellsOf 23 = 1 ∧ Tryz.prog.cellsOf 25 = 4 ∧ Tryz.prog.cellsOf 31 = 1 ∧ Tryz.prog.cellsOf 63 = 5 ∧ Tryz.prog.cellsOf 72 = 2 := by
  refine ⟨?_, ?_, ?_, ?_, ?_, ?_, ?_, ?_⟩ <;> kernel_rfl
section
variable {H : Type} {enc : TypeId × Value → H} {W : World} {cs : List Value}
theorem rd_mach (h : Rd enc Tryz.prog W 72 cs) : ∃ m : Mach, cs.all (okv W.heap.size) = true ∧ MachAt (ro W) (cs.map nz) m ∧ m.Fit := by
  obtain ⟨c3, c9, c22, c23, c25, c31, c63, c72⟩ := cells_ty
  obtain ⟨h1, h2⟩ := rd_struct Tryz.underlying72 h
  rw [c72] at h1
  obtain ⟨x0, x1, rfl⟩ : ∃ x0 x1, cs = [x0, x1] := by
    match cs, h1 with
    | [x0, x1], _ => exact ⟨x0, x1, rfl⟩
  have f0 : Rd enc Tryz.prog W 9 (([x0, x1].drop 0).take (Tryz.prog.cellsOf 9)) := h2 0 _ rfl
  rw [c9] at f0
  have f1 : Rd enc Tryz.prog W 31 (([x0, x1].drop 1).take (Tryz.prog.cellsOf 31)) := h2 1 _ rfl
  rw [c31] at f1
  obtain ⟨s, e0, l0⟩ := rd_string Tryz.underlying9 f0
  obtain ⟨v, a, l, cap, e1, ok1, nz1, hI, hL, hF⟩ := rd_ints Tryz.underlying31 Tryz.underlying3 c3 f1
  simp at e0 e1
  subst e0; subst e1
  refine ⟨⟨s, l⟩, by simp [ok1]; rfl, ⟨a, cap, ?_, hI⟩, ⟨l0, hL, hF⟩⟩
  simp only [List.map_cons, List.map_nil, nz1]; rfl
theorem rd_reel (h : Rd enc Tryz.prog W 63 cs) : ∃ m : Reel, cs.all (okv W.heap.size) = true ∧ ReelAt (ro W) (cs.map nz) m ∧ m.Fit := by
  obtain ⟨c3, c9, c22, c23, c25, c31, c63, c72⟩ := cells_ty
  obtain ⟨h1, h2⟩ := rd_struct Tryz.underlying63 h
  rw [c63] at h1
  obtain ⟨x0, x1, x2, x3, x4, rfl⟩ : ∃ x0 x1 x2 x3 x4, cs = [x0, x1, x2, x3, x4] := by
    match cs, h1 with
    | [x0, x1, x2, x3, x4], _ => exact ⟨x0, x1, x2, x3, x4, rfl⟩
  have f0 : Rd enc Tryz.prog W 9 (([x0, x1, x2, x3, x4].drop 0).take (Tryz.prog.cellsOf 9)) := h2 0 _ rfl
  rw [c9] at f0
  have f1 : Rd enc Tryz.prog W 31 (([x0, x1, x2, x3, x4].drop 1).take (Tryz.prog.cellsOf 31)) := h2 1 _ rfl
  rw [c31] at f1
  have f2 : Rd enc Tryz.prog W 3 (([x0, x1, x2, x3, x4].drop 2).take (Tryz.prog.cellsOf 3)) := h2 2 _ rfl
  rw [c3] at f2
  have f3 : Rd enc Tryz.prog W 3 (([x0, x1, x2, x3, x4].drop 3).take (Tryz.prog.cellsOf 3)) := h2 3 _ rfl
  rw [c3] at f3
  have f4 : Rd enc Tryz.prog W 3 (([x0, x1, x2, x3, x4].drop 4).take (Tryz.prog.cellsOf 3)) := h2 4 _ rfl
  rw [c3] at f4
  obtain ⟨s, e0, l0⟩ := rd_string Tryz.underlying9 f0
  obtain ⟨v, a, l, cap, e1, ok1, nz1, hI, hL, hF⟩ := rd_ints Tryz.underlying31 Tryz.underlying3 c3 f1
  obtain ⟨n2, e2, l2⟩ := rd_int Tryz.underlying3 f2
  obtain ⟨n3, e3, l3⟩ := rd_int Tryz.underlying3 f3
  obtain ⟨n4, e4, l4⟩ := rd_int Tryz.underlying3 f4
  simp at e0 e1 e2 e3 e4
  subst e0; subst e1; subst e2; subst e3; subst e4
  refine ⟨⟨s, l, n2, n3, n4⟩, by simp [ok1]; exact ⟨rfl, rfl, rfl, rfl⟩, ⟨a, cap, ?_, hI⟩, ⟨l0, hL, hF, l2, l3, l4⟩⟩
  simp only [List.map_cons, List.map_nil, nz1]; rfl
theorem rd_task (h : Rd enc Tryz.prog W 25 cs) : ∃ t : Task, cs.all (okv W.heap.size) = true ∧ TaskAt (ro W) (cs.map nz) t ∧ t.Fit := by
  obtain ⟨c3, c9, c22, c23, c25, c31, c63, c72⟩ := cells_ty
  obtain ⟨h1, h2⟩ := rd_struct Tryz.underlying25 h
  rw [c25] at h1
  obtain ⟨x0, x1, x2, x3, rfl⟩ : ∃ x0 x1 x2 x3, cs = [x0, x1, x2, x3] := by
    match cs, h1 with
    | [x0, x1, x2, x3], _ => exact ⟨x0, x1, x2, x3, rfl⟩
  have f0 : Rd enc Tryz.prog W 3 (([x0, x1, x2, x3].drop 0).take (Tryz.prog.cellsOf 3)) := h2 0 _ rfl
  rw [c3] at f0
  have f1 : Rd enc Tryz.prog W 3 (([x0, x1, x2, x3].drop 1).take (Tryz.prog.cellsOf 3)) := h2 1 _ rfl
  rw [c3] at f1
  have f2 : Rd enc Tryz.prog W 22 (([x0, x1, x2, x3].drop 2).take (Tryz.prog.cellsOf 22)) := h2 2 _ rfl
  rw [c22] at f2
  have f3 : Rd enc Tryz.prog W 23 (([x0, x1, x2, x3].drop 3).take (Tryz.prog.cellsOf 23)) := h2 3 _ rfl
  rw [c23] at f3
  obtain ⟨n0, e0, l0⟩ := rd_int Tryz.underlying3 f0
  obtain ⟨n1, e1, l1⟩ := rd_int Tryz.underlying3 f1
  obtain ⟨v2, a2, l2, cap2, e2, ok2, nz2, hM, hL2, hF2⟩ := rd_rows (R := MachAt) (Fit := Mach.Fit) Tryz.underlying22 c72 (by decide) (fun row hr => rd_mach hr) f2
  obtain ⟨v3, a3, l3, cap3, e3, ok3, nz3, hR, hL3, hF3⟩ := rd_rows (R := ReelAt) (Fit := Reel.Fit) Tryz.underlying23 c63 (by decide) (fun row hr => rd_reel hr) f3
  simp at e0 e1 e2 e3
  subst e0; subst e1; subst e2; subst e3
  refine ⟨⟨n0, n1, l2, l3⟩, by simp [ok2, ok3]; exact ⟨rfl, rfl⟩, ⟨a2, cap2, a3, cap3, ?_, hM, hR⟩, ⟨l0, l1, hL2, hL3, hF2, hF3⟩⟩
  simp only [List.map_cons, List.map_nil, nz2, nz3]; rfl
end
end Go.Dw
/- L3: RescueFits: its contract, for any workshop and reels. -/
namespace Go.Dw
open Go Go.Dx Go.Proofs
set_option maxRecDepth 100000
end Go.Dw
/- L4: RescueHall: its contract, for any workshop, reels and bits. -/
namespace Go.Dw
open Go Go.Dx Go.Proofs
set_option maxRecDepth 100000
theorem mixedB_of {many : Int} : ∀ {l : List Int} {b : Int}, (∀ x ∈ l, b < x ∧ x < many) → l.Pairwise (· < ·) → mixedB many b l = false
  | [], _, _, _ => rfl
  | n :: l, b, h, hp => by
    have h1 := h n List.mem_cons_self
    unfold mixedB
    rw [if_neg (by omega)]
    rw [List.pairwise_cons] at hp
    exact mixedB_of (fun x hx => ⟨hp.1 x hx, (h x (List.mem_cons_of_mem _ hx)).2⟩) hp.2
theorem fitsS_sub {t : Task} {l s : List Int} (c0 : errS t = 0) (hmx : mixedB t.reels.length (-1) l = false) (hs : s.Sublist l) : ∃ b, fitsS t s = (b, 0) ∧ (b = true ↔ fitP t s) := by
  obtain ⟨hin, hpw⟩ := mixed_false hmx (Int.le_refl _)
  have hm := mixedB_of (many := t.reels.length) (b := -1) (l := s) (fun x hx => by have := hin x (hs.subset hx); omega) (hpw.sublist hs)
  refine ⟨_, by rw [fitsS, if_neg (fun x => x c0), if_neg (by rw [hm]; simp)], ?_⟩
  simp
theorem tightL_succ {t : Task} {l : List Int} {n i : Nat} (hi : i < l.length) {b : Bool} (hb : b = true ↔ fitP t (remL l n i)) : tightL t l n (i + 1) = tightL t l n i ++ (if b = true then [l[i]] else []) := by
  unfold tightL
  rw [List.range_succ, List.flatMap_append]
  congr 1
  simp only [List.flatMap_cons, List.flatMap_nil, List.append_nil, List.getD_eq_getElem?_getD, List.getElem?_eq_getElem hi, Option.getD_some]
  by_cases h : fitP t (remL l n i)
  · rw [if_pos h, if_pos (hb.2 h)]
  · rw [if_neg h, if_neg (fun x => h (hb.1 x))]
theorem remL_sub {l : List Int} {n i : Nat} (hi : i < l.length) : (remL l n i).Sublist l := by
  have e : l = l.take i ++ (l[i] :: l.drop (i + 1)) := by rw [← List.drop_eq_getElem_cons, List.take_append_drop]
  unfold remL
  conv => rhs; rw [e]
  exact (List.Sublist.refl _).append ((List.take_sublist _ _).cons _)
theorem fitsS_bad {t : Task} {l : List Int} {b : Bool} {e : Int} (h : fitsS t l = (b, e)) (he : e ≠ 0) : b = false := by
  unfold fitsS at h
  split at h
  · cases h; rfl
  · split at h
    · cases h; rfl
    · cases h; exact absurd rfl he
theorem fitsS_good {t : Task} {l : List Int} {b : Bool} (h : fitsS t l = (b, 0)) : errS t = 0 ∧ mixedB t.reels.length (-1) l = false := by
  unfold fitsS at h
  split at h
  · rename_i h1
    exact absurd (congrArg Prod.snd h) h1
  · rename_i h1
    split at h
    · cases h
    · rename_i h2
      exact ⟨Classical.not_not.1 h1, by simpa using h2⟩
set_option maxHeartbeats 8000000 in
theorem rescueHall_sv {tc : List Value} {t : Task} {a : Option Addr} {cap : Nat} {l : List Int} {bits : Int} {h : Heap} (ht : TaskAt h tc t) (hf : t.Fit) (hp : ParS h a l cap) (hlen : Len l) (hli : ∀ n ∈ l, I64 n) :
    Sv Tryz.prog 11 [.agg ⟨tc⟩, .slice a l.length cap, .int .u32 bits] h (RetP fun v h' => v = .bool true ∧ Ext h h') := by
  have ht0 := ht
  obtain ⟨am, cm, ar, cr, rfl, hM, hR⟩ := ht
  refine Sv_wf fun hw => ?_
  refine Sv_enter Tryz.func11 rfl (by rw [Tryz.ntmps11]; rfl) ?_; show Wc Tryz.prog ⟨11, 145, none⟩ _ _ _ _ _
  refine Wc_seq ?_; refine Wc_region ?_
  refine Wo_box rfl rfl rfl fun h1 hE1 hW1 hg1 hn1 => ?_
  obtain ⟨b0, e0, hbe⟩ : ∃ b e, fitsS t l = (b, e) := ⟨_, _, rfl⟩
  have hs1 := rescueFitsF_sv (cap := cap) (ht0.ext hE1) hf (hp.at'.ext hE1) hlen
  rw [hbe] at hs1
  refine Wo_do rfl rfl rfl rfl (A_assign rfl) ?_; refine Wo_nil ?_; refine Wc_seq ?_; refine Wc_region ?_; refine Wo_do rfl rfl rfl rfl (A_ldr RowC.h rfl) ?_; refine Wo_do rfl rfl rfl rfl (A_move rfl) ?_
  refine Wo_callE rfl rfl rfl rfl rfl Bod.h rfl rfl (hs1) fun h2 hE2 => ?_
  have hE := hE1.trans hE2
  replace hg1 := hE2.get hg1
  have hs2 := refFits_sv (cap := cap) (ht0.ext hE) hf (hp.at'.ext hE) hlen hli
  rw [hbe] at hs2
  refine Wo_do rfl rfl rfl rfl (A_move rfl) ?_; refine Wo_do rfl rfl rfl rfl (A_extract rfl rfl) ?_; refine Wo_do rfl rfl rfl rfl (A_extract rfl rfl) ?_; refine Wo_do rfl rfl rfl rfl (A_assign rfl) ?_; refine Wo_do rfl rfl rfl rfl (A_assign rfl) ?_; refine Wo_nil ?_; refine Wc_seq ?_; refine Wc_region ?_; refine Wo_do rfl rfl rfl rfl (A_ldr RowC.h rfl) ?_; refine Wo_do rfl rfl rfl rfl (A_move rfl) ?_
  refine Wo_callE rfl rfl rfl rfl rfl Bod.h rfl rfl (hs2) fun h3 hE3 => ?_
  replace hE := hE.trans hE3
  replace hg1 := hE3.get hg1
  clear hs1 hs2 hE1 hE2 hE3 hW1
  clear hn1 h2
  clear h1
  refine Wo_do rfl rfl rfl rfl (A_move rfl) ?_; refine Wo_do rfl rfl rfl rfl (A_extract rfl rfl) ?_; refine Wo_do rfl rfl rfl rfl (A_extract rfl rfl) ?_; refine Wo_do rfl rfl rfl rfl (A_assign rfl) ?_; refine Wo_do rfl rfl rfl rfl (A_assign rfl) ?_; refine Wo_nil ?_; refine Wc_seq ?_; refine Wc_seq ?_; refine Wc_region ?_; refine Wo_do rfl rfl rfl rfl (A_move rfl) ?_
  by_cases c0 : e0 = 0
  rotate_left
  · have hb := fitsS_bad hbe c0
    subst hb
    refine Wo_do rfl rfl rfl rfl (A_tt c0 (A_neq rfl rfl)) ?_
    refine Wo_do rfl rfl rfl rfl (A_move rfl) ?_; refine Wo_off rfl rfl rfl ?_; refine Wo_off rfl rfl rfl ?_; refine Wo_do rfl rfl rfl rfl (A_pickT rfl rfl) ?_; refine Wo_nil ?_; refine Wc_condT rfl ?_; refine Wc_seq ?_; refine Wc_region ?_; refine Wo_do rfl rfl rfl rfl (A_move rfl) ?_; refine Wo_do rfl rfl rfl rfl (A_move rfl) ?_
    refine Wo_do rfl rfl rfl rfl (A_tt rfl (A_eql rfl rfl)) ?_
    refine Wo_do rfl rfl rfl rfl (A_move rfl) ?_; refine Wo_do rfl rfl rfl rfl (A_move rfl) ?_; refine Wo_do rfl rfl rfl rfl (A_not rfl) ?_; refine Wo_do rfl rfl rfl rfl (A_pickT rfl rfl) ?_; refine Wo_do rfl rfl rfl rfl (A_move rfl) ?_
    refine Wo_callV rfl rfl rfl rfl rfl Bod.h rfl rfl (awake_sv _) ?_
    refine Wo_do rfl rfl rfl rfl (A_pickT rfl rfl) ?_; refine Wo_do rfl rfl rfl rfl (A_assign rfl) ?_; refine Wo_nil ?_
    exact Wc_ret (Lv_ret rfl ⟨rfl, hE⟩)
  subst c0
  obtain ⟨c0, hmx⟩ := fitsS_good hbe
  have hV := valid_of c0
  obtain ⟨hin, hpw⟩ := mixed_false hmx (Int.le_refl _)
  have hr1 := hV.r1
  have hll := pw_len hmx (by omega)
  have hnd : l.Nodup := hpw.imp fun hab => by omega
  have hIR : InR t l := fun x hx => by have := hin x hx; omega
  refine Wo_do rfl rfl rfl rfl (A_ff (fun x => x rfl) (A_neq rfl rfl)) ?_
  refine Wo_do rfl rfl rfl rfl (A_move rfl) ?_; refine Wo_do rfl rfl rfl rfl (A_move rfl) ?_
  refine Wo_do rfl rfl rfl rfl (A_ff (fun x => x rfl) (A_neq rfl rfl)) ?_
  refine Wo_do rfl rfl rfl rfl (A_pickF rfl rfl) ?_; refine Wo_nil ?_; refine Wc_condF rfl ?_; refine Wc_skip ?_; refine Wc_seq ?_; refine Wc_region ?_; refine Wo_do rfl rfl rfl rfl (A_move rfl) ?_; refine Wo_do rfl rfl rfl rfl (A_move rfl) ?_
  refine Wo_callr rfl rfl rfl rfl rfl Bod.h rfl rfl (part_sv (hp.at'.ext hE) (by omega)) ?_
  rintro v h4 ⟨a4, s, cap4, rfl, hsrc, hsub, hE4⟩
  replace hE := hE.trans hE4
  replace hg1 := hE4.get hg1
  clear hE4
  clear h3
  obtain ⟨b1, hb1, hbf1⟩ := fitsS_sub c0 hmx (List.Sublist.refl l)
  have hb01 : b1 = b0 := by rw [hbe] at hb1; cases hb1; rfl
  subst hb01
  cases b1
  rotate_left
  · obtain ⟨b2, hb2, hbf2⟩ := fitsS_sub c0 hmx hsub
    have hF := hbf1.1 rfl
    have hF2 : fitP t s := hF.mono fun r hr => by
      obtain ⟨x, hx1, hx2⟩ := List.mem_map.1 hr
      exact List.mem_map.2 ⟨x, hsub.subset hx1, hx2⟩
    have hbt := hbf2.2 hF2
    subst hbt
    have hsl := hsub.length_le
    have hsR : InR t s := fun x hx => hIR x (hsub.subset hx)
    have hsL : Len s := by unfold Len at *; omega
    have hs1 := rescueFitsF_sv (cap := cap4) (ht0.ext hE) hf hsrc.1 (by unfold Len at *; omega)
    rw [hb2] at hs1
    refine Wo_do rfl rfl rfl rfl (A_assign rfl) ?_; refine Wo_nil ?_; refine Wc_seq ?_; refine Wc_seq ?_; refine Wc_region ?_; refine Wo_do rfl rfl rfl rfl (A_move rfl) ?_; refine Wo_nil ?_; refine Wc_condT rfl ?_; refine Wc_seq ?_; refine Wc_region ?_; refine Wo_do rfl rfl rfl rfl (A_ldr RowC.h rfl) ?_; refine Wo_do rfl rfl rfl rfl (A_move rfl) ?_
    refine Wo_callE rfl rfl rfl rfl rfl Bod.h rfl rfl (hs1) fun h5 hE5 => ?_
    replace hE := hE.trans hE5
    replace hg1 := hE5.get hg1
    refine Wo_do rfl rfl rfl rfl (A_move rfl) ?_; refine Wo_do rfl rfl rfl rfl (A_extract rfl rfl) ?_; refine Wo_do rfl rfl rfl rfl (A_extract rfl rfl) ?_; refine Wo_do rfl rfl rfl rfl (A_assign rfl) ?_; refine Wo_do rfl rfl rfl rfl (A_assign rfl) ?_; refine Wo_nil ?_; refine Wc_seq ?_; refine Wc_region ?_; refine Wo_do rfl rfl rfl rfl (A_move rfl) ?_
    refine Wo_do rfl rfl rfl rfl (A_tt rfl (A_eql rfl rfl)) ?_
    refine Wo_do rfl rfl rfl rfl (A_move rfl) ?_; refine Wo_do rfl rfl rfl rfl (A_move rfl) ?_; refine Wo_do rfl rfl rfl rfl (A_pickT rfl rfl) ?_; refine Wo_do rfl rfl rfl rfl (A_move rfl) ?_; refine Wo_do rfl rfl rfl rfl (A_ldr RowC.h rfl) ?_; refine Wo_do rfl rfl rfl rfl (A_move rfl) ?_
    refine Wo_callE rfl rfl rfl rfl rfl Bod.h rfl rfl (refCount_sv (ht0.ext hE) hf hV (hsrc.1.ext hE5) hsL hsR) fun h6 hE6 => ?_
    replace hE := hE.trans hE6
    have hhall := hall_fit hV hsR (hnd.sublist hsub) hF2
    refine Wo_do rfl rfl rfl rfl (A_move rfl) ?_; refine Wo_do rfl rfl rfl rfl (A_lenS rfl rfl rfl Und.h rfl) ?_
    refine Wo_do rfl rfl rfl rfl (A_tt hhall (A_geq rfl rfl)) ?_
    refine Wo_do rfl rfl rfl rfl (A_pickT rfl rfl) ?_; refine Wo_do rfl rfl rfl rfl (A_move rfl) ?_
    refine Wo_callV rfl rfl rfl rfl rfl Bod.h rfl rfl (awake_sv _) ?_
    refine Wo_do rfl rfl rfl rfl (A_pickT rfl rfl) ?_; refine Wo_do rfl rfl rfl rfl (A_assign rfl) ?_; refine Wo_nil ?_
    exact Wc_ret (Lv_ret rfl ⟨rfl, hE⟩)
  have hnF : ¬ fitP t l := fun hx => nomatch hbf1.2 hx
  have hl0 : l ≠ [] := fun e => hnF (by subst e; exact ⟨fun _ => (0, 0, 0), (fun _ h => nomatch h), (fun _ h => nomatch h)⟩)
  obtain ⟨b, o, rfl, hr0⟩ := hp.plain hl0
  refine Wo_do rfl rfl rfl rfl (A_assign rfl) ?_; refine Wo_nil ?_; refine Wc_seq ?_; refine Wc_seq ?_; refine Wc_region ?_; refine Wo_do rfl rfl rfl rfl (A_move rfl) ?_; refine Wo_nil ?_; refine Wc_condF rfl ?_; refine Wc_skip ?_; refine Wc_seq ?_; refine Wc_region ?_; refine Wo_do rfl rfl rfl rfl (A_assign rfl) ?_; refine Wo_nil ?_; refine Wc_seq ?_; refine Wc_block ?_
  refine Wc_loop (fun (n : Nat) m ds h' => ds = [] ∧ n ≤ l.length ∧ fitP t (l.take n) ∧ Ext h h' ∧ h'.get h.nx = some (.cells [i64 t.first, i64 t.days, .slice am t.machines.length cm, .slice ar t.reels.length cr] 25 false) ∧ AllK m [(1, .slice (some ⟨b, o, none⟩) l.length cap), (3, ptr h.nx), (14, i64 n)])
    (fun n => l.length - n) 0 ?_ ?_
  · exact ⟨rfl, Nat.zero_le _, ⟨fun _ => (0, 0, 0), (fun _ h => nomatch h), (fun _ h => nomatch h)⟩, hE, hg1, rfl, rfl, rfl, trivial⟩
  clear hE hg1 hsrc
  clear h4
  rintro n m ds h1 ⟨rfl, hn, hFn, hE, hg1, hall⟩
  refine Wc.le ?_ (Le.kn hall)
  refine Wc_seq ?_; refine Wc_seq ?_; refine Wc_region ?_; refine Wo_do rfl rfl rfl rfl (A_move rfl) ?_; refine Wo_do rfl rfl rfl rfl (A_move rfl) ?_; refine Wo_do rfl rfl rfl rfl (A_lenS rfl rfl rfl Und.h rfl) ?_
  refine Wo_dec rfl rfl rfl rfl (A_lss rfl rfl) (fun hnp => ?_) (fun hnp => ?_)
  rotate_left
  · exfalso
    have : n = l.length := by omega
    subst this
    rw [List.take_length] at hFn
    exact hnF hFn
  have hn' : n < l.length := by omega
  have hcap := hp.le
  have hsb : (l.take (n + 1)).Sublist l := List.take_sublist _ _
  obtain ⟨b3, hb3, hbf3⟩ := fitsS_sub c0 hmx hsb
  have hlt : (l.take (n + 1)).length = n + 1 := by rw [List.length_take]; omega
  have hat : IntsAt h1 (some ⟨b, o, none⟩) (l.take (n + 1)) := by
    have h1 := (hp.ext hE).sub (k := 0) (n := n + 1) (by omega) (by omega)
    simpa using h1
  have hs1 := rescueFitsF_sv (cap := cap) (ht0.ext hE) hf hat (by unfold Len at *; omega)
  rw [hb3, hlt] at hs1
  refine Wo_nil ?_; refine Wc_condT rfl ?_; refine Wc_skip ?_; refine Wc_block ?_; refine Wc_seq ?_
  refine Wc_draw hmix [0, 0, 0, 4, 14, 31, 63, 127, 127, 255, 1023] [0, 1, 2, 3, 4] (some 5) [([6, 7, 8], (some 9)), ([], (some 10)), ([], none)] (by kernel_rfl) (by kernel_rfl) ?_
  refine Wp_pure rfl rfl rfl rfl rfl (fun _ => A_ldr RowC.h rfl) ?_
  refine Wp_pure rfl rfl rfl rfl rfl (fun _ => A_move rfl) ?_
  refine Wp_pure rfl rfl rfl rfl rfl (fun _ => A_move rfl) ?_
  refine Wp_pure rfl rfl rfl rfl rfl (fun _ => A_ad rfl rfl) ?_
  refine Wp_pure rfl rfl rfl rfl rfl (fun _ => A_sliceTo (k := n + 1) Und.h Tsz.h rfl rfl (by omega) (by omega)) ?_
  refine Wp_eff [0, 1, 2, 3, 4] (by kernel_rfl) rfl (Stl_nil rfl) rfl (addAll_none (NoB_cons (NoB_cons (NoB_cons (NoB_cons (NoB_cons NoB_nil)))))) rfl (W1_call rfl rfl rfl rfl rfl Bod.h hs1 (fun v h5 hv => ?_) (fun _ _ hR => hR.elim))
  obtain ⟨rfl, hE5⟩ := hv
  replace hg1 := hE5.get hg1
  refine Wp_pure rfl rfl rfl rfl rfl (fun _ => A_move rfl) ?_
  refine Wp_pure rfl rfl rfl rfl rfl (fun _ => A_extract rfl rfl) ?_
  refine Wp_pure rfl rfl rfl rfl rfl (fun _ => A_extract rfl rfl) ?_
  refine Wp_eff [0, 1, 2, 3, 4, 5, 6, 7] (by kernel_rfl) rfl (Stl_nil rfl) rfl (addAll_none (NoB_cons (NoB_cons (NoB_cons (NoB_filter (NoB_cons (NoB_cons (NoB_cons (NoB_cons (NoB_cons NoB_nil)))))))))) rfl (W1_op rfl rfl (A_assign rfl) ?_)
  refine Wp_eff [0, 1, 2, 3, 4, 5, 6, 7, 8, 9] (by kernel_rfl) rfl (by refine Stl_pure (i := 8) rfl rfl rfl rfl rfl (fun _ => A_extract rfl rfl) rfl ?_; exact Stl_nil rfl) rfl (addAll_none (NoB_filter (NoB_cons (NoB_cons (NoB_cons (NoB_filter (NoB_cons (NoB_cons (NoB_cons (NoB_cons (NoB_cons NoB_nil))))))))))) rfl (W1_op rfl rfl (A_assign rfl) ?_)
  refine Wp_end (Stl_nil rfl) (addAll_none' (NoB_filter (NoB_filter (NoB_cons (NoB_cons (NoB_cons (NoB_filter (NoB_cons (NoB_cons (NoB_cons (NoB_cons (NoB_cons NoB_nil)))))))))))) ?_
  refine Wc_seq ?_; refine Wc_seq ?_; refine Wc_region ?_; refine Wo_do rfl rfl rfl rfl (A_move rfl) ?_
  refine Wo_do rfl rfl rfl rfl (A_ff (fun x => x rfl) (A_neq rfl rfl)) ?_
  replace hE := hE.trans hE5
  clear hs1 hat hE5 hall
  clear h1
  cases b3
  rotate_left
  · refine Wo_nil ?_; refine Wc_condF rfl ?_; refine Wc_skip ?_; refine Wc_seq ?_; refine Wc_seq ?_; refine Wc_region ?_; refine Wo_do rfl rfl rfl rfl (A_move rfl) ?_; refine Wo_do rfl rfl rfl rfl (A_not rfl) ?_; refine Wo_nil ?_; refine Wc_condF rfl ?_; refine Wc_skip ?_; refine Wc_region ?_; refine Wo_do rfl rfl rfl rfl (A_move rfl) ?_; refine Wo_do rfl rfl rfl rfl (A_ad rfl rfl) ?_; refine Wo_do rfl rfl rfl rfl (A_assign rfl) ?_; refine Wo_nil ?_
    refine ⟨n + 1, ?_, rfl, hn', hbf3.1 rfl, hE, hg1, rfl, rfl, rfl, trivial⟩
    show l.length - (n + 1) < l.length - n; omega
  have hFn1 : ¬ fitP t (l.take (n + 1)) := fun hx => nomatch hbf3.2 hx
  have htight := hall_tight hV hIR hnd hn' hFn hFn1
  refine Wo_nil ?_; refine Wc_condF rfl ?_; refine Wc_skip ?_; refine Wc_seq ?_; refine Wc_seq ?_; refine Wc_region ?_; refine Wo_do rfl rfl rfl rfl (A_move rfl) ?_; refine Wo_do rfl rfl rfl rfl (A_not rfl) ?_; refine Wo_nil ?_; refine Wc_condT rfl ?_; refine Wc_exit ?_; refine Wc_seq ?_; refine Wc_seq ?_; refine Wc_region ?_; refine Wo_do rfl rfl rfl rfl (A_move rfl) ?_; refine Wo_do rfl rfl rfl rfl (A_move rfl) ?_; refine Wo_do rfl rfl rfl rfl (A_lenS rfl rfl rfl Und.h rfl) ?_
  refine Wo_do rfl rfl rfl rfl (A_ff (by omega) (A_geq rfl rfl)) ?_
  obtain ⟨b', o', oa', eb, hcn⟩ := (hp.at'.ext hE) n hn'
  cases eb
  refine Wo_nil ?_; refine Wc_condF rfl ?_; refine Wc_skip ?_; refine Wc_seq ?_; refine Wc_region ?_; refine Wo_do rfl rfl rfl rfl (A_move rfl) ?_; refine Wo_do rfl rfl rfl rfl (A_move rfl) ?_
  refine Wo_do rfl rfl rfl rfl (A_ix Und.h Tsz.h rfl rfl) ?_
  refine Wo_do rfl rfl rfl rfl (A_ld OneC.h rfl) ?_
  refine Wo_bs rfl rfl Und.h Tsz.h Zr.h rfl rfl rfl rfl rfl fun h2 hE2 hW2 hg2 hx2 => ?_
  replace hg1 := hE2.get hg1
  replace hE2 := hE.trans hE2
  have hF2 : FreshSl h h2 (.slice (some ⟨h5.nx, 0, none⟩) 1 1) 3 1 ((l[n] :: tightL t l n 0).map i64) (l[n] :: tightL t l n 0).length := FreshSl.lit (n := 1) (sz := 1) (cs := [i64 l[n]]) hg2 rfl hE.2.1
  refine Wo_do rfl rfl rfl rfl (A_assign rfl) ?_; refine Wo_nil ?_; refine Wc_seq ?_; refine Wc_seq ?_; refine Wc_region ?_; refine Wo_do rfl rfl rfl rfl (A_assign rfl) ?_; refine Wo_nil ?_; refine Wc_block ?_
  refine Wc_loop (fun (i : Nat) m ds h' => ds = [] ∧ i ≤ n ∧ Ext h h' ∧ h'.get h.nx = some (.cells [i64 t.first, i64 t.days, .slice am t.machines.length cm, .slice ar t.reels.length cr] 25 false) ∧ ∃ v, FreshSl h h' v 3 1 ((l[n] :: tightL t l n i).map i64) (l[n] :: tightL t l n i).length ∧ AllK m [(1, .slice (some ⟨b, o, none⟩) l.length cap), (3, ptr h.nx), (14, i64 n), (17, v), (18, i64 i)])
    (fun i => n - i) 0 ?_ ?_
  · exact ⟨rfl, Nat.zero_le _, hE2, hg1, _, hF2, rfl, rfl, rfl, rfl, rfl, trivial⟩
  clear hg1 hE2 hF2 hg2 hW2 hx2 hcn hE
  clear h2 h5
  rintro i m ds h1 ⟨rfl, hi, hE, hg1, v, hFv, hall⟩
  refine Wc_wf fun hw1 => ?_
  refine Wc.le ?_ (Le.kn hall)
  refine Wc_seq ?_; refine Wc_seq ?_; refine Wc_region ?_; refine Wo_do rfl rfl rfl rfl (A_move rfl) ?_; refine Wo_do rfl rfl rfl rfl (A_move rfl) ?_
  refine Wo_dec rfl rfl rfl rfl (A_lss rfl rfl) (fun hip => ?_) (fun hip => ?_)
  rotate_left
  · have : i = n := by omega
    subst this
    obtain ⟨av, rfl, _, hsv⟩ := hFv.srcAt
    have hRv : InR t (l[i] :: tightL t l i i) := fun y hy => by
      rcases List.mem_cons.1 hy with e | g
      · rw [e]; exact hIR _ (List.getElem_mem hn')
      · obtain ⟨j, hj, _, rfl⟩ := mem_tightL.1 g
        have h1 : j < l.length := by omega
        rw [List.getD_eq_getElem?_getD, List.getElem?_eq_getElem h1]
        exact hIR _ (List.getElem_mem h1)
    have htl : (tightL t l i i).length ≤ 24 := by
      have := Go.Mt.nodup_le (tightL_nodup (t := t) (n := i) (k := i) hnd (by omega)) (m := l) (fun x hx => by
        obtain ⟨j, hj, _, rfl⟩ := mem_tightL.1 hx
        have h1 : j < l.length := by omega
        rw [List.getD_eq_getElem?_getD, List.getElem?_eq_getElem h1]
        exact List.getElem_mem h1)
      omega
    have hLv : Len (l[i] :: tightL t l i i) := by unfold Len; simp only [List.length_cons]; omega
    refine Wo_nil ?_; refine Wc_condF rfl ?_; refine Wc_exit ?_; refine Wc_seq ?_; refine Wc_region ?_; refine Wo_do rfl rfl rfl rfl (A_ldr RowC.h rfl) ?_; refine Wo_do rfl rfl rfl rfl (A_move rfl) ?_
    refine Wo_callE rfl rfl rfl rfl rfl Bod.h rfl rfl (refCount_sv (ht0.ext hE) hf hV hsv.1 hLv hRv) fun h6 hE6 => ?_
    replace hE := hE.trans hE6
    refine Wo_do rfl rfl rfl rfl (A_move rfl) ?_; refine Wo_do rfl rfl rfl rfl (A_lenS rfl rfl rfl Und.h rfl) ?_; refine Wo_do rfl rfl rfl rfl (A_sb rfl rfl) ?_
    refine Wo_do rfl rfl rfl rfl (A_tt (by rw [htight]; simp only [List.length_cons]; omega) (A_eql rfl rfl)) ?_
    refine Wo_do rfl rfl rfl rfl (A_move rfl) ?_
    refine Wo_callV rfl rfl rfl rfl rfl Bod.h rfl rfl (awake_sv _) ?_
    refine Wo_do rfl rfl rfl rfl (A_pickT rfl rfl) ?_; refine Wo_do rfl rfl rfl rfl (A_assign rfl) ?_; refine Wo_nil ?_
    exact Wc_ret (Lv_ret rfl ⟨rfl, hE⟩)
  have hi' : i < n := by omega
  obtain ⟨b4, hb4, hbf4⟩ := fitsS_sub c0 hmx (remL_sub (l := l) (n := n) (i := i) (by omega))
  have hE4 := Ext.add hw1 (.cells [] 3 false)
  have hpp := (hp.ext hE).ext hE4
  have hlti : (l.take i).length = i := by rw [List.length_take]; omega
  have hs0 : SrcAt i64 (h1.add (.cells [] 3 false)) (some ⟨b, o, none⟩) (l.take i) := by
    refine ⟨fun j hj => ?_, fun _ => .inr (.inr ⟨b, o, none, rfl, hE4.row (hE.row hr0)⟩)⟩
    rw [hlti] at hj
    obtain ⟨b', o', oa, e, hc⟩ := hpp.at' j (by omega)
    cases e
    exact ⟨b, o, none, rfl, by rw [List.getElem_take]; exact hc⟩
  have hz0 := hs0.src (P := Tryz.prog) (cap := cap) (el := 3) (tX := 31) (dd := .slice 3) Und.h (by intro k; simp)
  rw [hlti] at hz0
  have hl1 : ((l.take i).map i64).length = i * 1 := by rw [List.length_map, hlti]; omega
  have hb1 : (2 * (0 + i) + 192) * 8 ≤ 281474976710656 := by omega
  have hb2 : 0 + i < 281474976710656 := by omega
  refine Wo_nil ?_; refine Wc_condT rfl ?_; refine Wc_skip ?_; refine Wc_seq ?_; refine Wc_block ?_; refine Wc_seq ?_
  refine Wc_draw hmix [0, 0, 0, 0, 12, 30, 0, 0, 128, 0, 512, 1984, 4094, 8191, 16383, 32767, 32767, 65535, 262143] [0, 1, 2, 3, 4, 6, 7, 8, 9, 10, 11] (some 5) [([], (some 12)), ([], (some 13)), ([14, 15, 16], (some 17)), ([], (some 18)), ([], none)] (by kernel_rfl) (by kernel_rfl) ?_
  refine Wp_pure rfl rfl rfl rfl rfl (fun _ => A_ldr RowC.h rfl) ?_
  refine Wp_new (nk := .sl _ _) rfl rfl rfl rfl rfl (fun _ _ hs => N_bs hs Und.h Tsz.h Zr.h rfl rfl rfl rfl rfl) ?_
  refine Wp_pure rfl rfl rfl rfl rfl (fun _ => A_move rfl) ?_
  refine Wp_pure rfl rfl rfl rfl rfl (fun _ => A_move rfl) ?_
  refine Wp_pure rfl rfl rfl rfl rfl (fun _ => A_sliceTo (k := i) Und.h Tsz.h rfl rfl rfl (by omega)) ?_
  refine Wp_pure rfl rfl rfl rfl rfl (fun _ => A_move rfl) ?_
  refine Wp_pure rfl rfl rfl rfl rfl (fun _ => A_move rfl) ?_
  refine Wp_pure rfl rfl rfl rfl rfl (fun _ => A_ad rfl rfl) ?_
  refine Wp_pure rfl rfl rfl rfl rfl (fun _ => A_move rfl) ?_
  refine Wp_pure rfl rfl rfl rfl rfl (fun _ => A_ad rfl rfl) ?_
  refine Wp_pure rfl rfl rfl rfl rfl (fun _ => A_sliceSub (k := i + 1) (n := n + 1) Und.h Tsz.h rfl rfl rfl rfl rfl (by omega) (by omega) (by omega)) ?_
  refine Wp_eff (h1 := (Heap.add h1 _)) [1, 2, 3, 4] (by kernel_rfl) rfl (Stl_nil rfl) rfl rfl rfl (W1_appendF (by' := 8) (k := i) (n := 0) (l := (l.take i).map i64) rfl hw (hw1.add _) (hE.trans hE4) rfl rfl rfl rfl Und.h inferInstance rfl rfl (FreshSl.lit (n := 0) (sz := 1) (cs := []) Heap.get_add_same rfl hE.2.1) hz0 hl1 (allOne_i64 _) hb1 hb2 (fun v5 h5 hF5 hE5 hK5 hx5 hv5 => ?_))
  have hat5 := (hp.ext hE5).sub (k := i + 1) (n := n + 1) (by omega) (by omega)
  have hlr : ((l.drop (i + 1)).take (n + 1 - (i + 1))).length = n + 1 - (i + 1) := by rw [List.length_take, List.length_drop]; omega
  have hz5 := (show SrcAt i64 h5 (some ⟨b, o + (i + 1) * 1, none⟩) ((l.drop (i + 1)).take (n + 1 - (i + 1))) from ⟨hat5, fun e => by rw [e] at hlr; simp at hlr; omega⟩).src (P := Tryz.prog) (cap := cap - (i + 1)) (el := 3) (tX := 31) (dd := .slice 3) Und.h (by intro k; simp)
  rw [hlr] at hz5
  have hl5 : (((l.drop (i + 1)).take (n + 1 - (i + 1))).map i64).length = (n + 1 - (i + 1)) * 1 := by rw [List.length_map, hlr]; omega
  have hb3 : (2 * (0 + i + (n + 1 - (i + 1))) + 192) * 8 ≤ 281474976710656 := by omega
  have hb4' : 0 + i + (n + 1 - (i + 1)) < 281474976710656 := by omega
  have hnx1 : h.nx < h1.nx := hw1 _ _ hg1
  have hk5 : ∀ c x, h1.get c = some x → h5.get c = some x := fun c x hg => hK5 _ _ (fun e => absurd (Option.some.inj (show some h1.nx = some c from e)) (by have := hw1 _ _ hg; omega)) (hE4.get hg)
  have hg15 := hk5 _ _ hg1
  refine Wp_eff (h1 := h5) [1, 2, 3, 4, 5, 6, 7, 8, 9, 10, 11] (by kernel_rfl) rfl (by refine Stl_pure (i := 11) rfl rfl rfl rfl rfl (fun _ => A_sliceSub (k := i + 1) (n := n + 1) Und.h Tsz.h rfl rfl rfl rfl rfl (by omega) (by omega) (by omega)) rfl ?_; refine Stl_pure (i := 10) rfl rfl rfl rfl rfl (fun _ => A_ad rfl rfl) rfl ?_; refine Stl_pure (i := 9) rfl rfl rfl rfl rfl (fun _ => A_move rfl) rfl ?_; refine Stl_pure (i := 8) rfl rfl rfl rfl rfl (fun _ => A_ad rfl rfl) rfl ?_; refine Stl_pure (i := 7) rfl rfl rfl rfl rfl (fun _ => A_move rfl) rfl ?_; refine Stl_pure (i := 6) rfl rfl rfl rfl rfl (fun _ => A_move rfl) rfl ?_; refine Stl_pure (i := 0) rfl rfl rfl rfl rfl (fun _ => A_ldr RowC.h rfl) rfl ?_; exact Stl_nil rfl) rfl rfl rfl (W1_wf fun hw5 => W1_appendF (by' := 8) (k := n + 1 - (i + 1)) (n := 0 + i) (l := ((l.drop (i + 1)).take (n + 1 - (i + 1))).map i64) rfl hw hw5 hE5 rfl rfl rfl rfl Und.h inferInstance rfl rfl hF5 hz5 hl5 (allOne_i64 _) hb3 hb4' (fun v6 h6 hF6 hE6 hK6 hx6 hv6 => ?_))
  have hk6 : ∀ c x, h1.get c = some x → h6.get c = some x := fun c x hg => hK6 _ _ (fun e => by
    have hc := hw1 _ _ hg
    rcases hv5 with e5 | ⟨bx, e5, hbx⟩
    · exact absurd (Option.some.inj (show some h1.nx = some c from e5.symm.trans e)) (by omega)
    · have e6 := Option.some.inj (e5.symm.trans e)
      have : h1.nx + 1 ≤ bx := hbx
      omega) (hk5 _ _ hg)
  have hg16 := hk6 _ _ hg1
  have hF7 : FreshSl h h6 v6 3 1 ((remL l n i).map i64) (remL l n i).length := by
    have e1 : (remL l n i).map i64 = [] ++ (l.take i).map i64 ++ ((l.drop (i + 1)).take (n + 1 - (i + 1))).map i64 := by
      unfold remL; rw [List.map_append, List.nil_append, show n + 1 - (i + 1) = n - i by omega]
    have e2 : (remL l n i).length = 0 + i + (n + 1 - (i + 1)) := by
      unfold remL; rw [List.length_append, hlti, ← hlr, show n + 1 - (i + 1) = n - i by omega]; simp
    rw [e1, e2]; exact hF6
  obtain ⟨a7, rfl, _, hs7⟩ := hF7.srcAt
  have hs9 := rescueFitsF_sv (cap := (remL l n i).length) (ht0.ext hE6) hf hs7.1 (by have := (remL_sub (l := l) (n := n) (i := i) (by omega)).length_le; unfold Len at *; omega)
  rw [hb4] at hs9
  refine Wp_eff (h1 := h6) [0, 1, 2, 3, 4, 5, 6, 7, 8, 9, 10, 11, 12] (by kernel_rfl) rfl (by refine Stl_pure (i := 0) rfl rfl rfl rfl rfl (fun _ => A_ldr RowC.h rfl) rfl ?_; exact Stl_nil rfl) rfl rfl rfl (W1_call rfl rfl rfl rfl rfl Bod.h hs9 (fun v8 h8 hv => ?_) (fun _ _ hR => hR.elim))
  obtain ⟨rfl, hE8⟩ := hv
  have hg18 := hE8.get hg16
  refine Wp_pure rfl rfl rfl rfl rfl (fun _ => A_move rfl) ?_
  refine Wp_pure rfl rfl rfl rfl rfl (fun _ => A_extract rfl rfl) ?_
  refine Wp_pure rfl rfl rfl rfl rfl (fun _ => A_extract rfl rfl) ?_
  refine Wp_eff (h1 := h8) [0, 1, 2, 3, 4, 5, 6, 7, 8, 9, 10, 11, 12, 13, 14, 15] (by kernel_rfl) rfl (Stl_nil rfl) rfl rfl rfl (W1_op rfl rfl (A_assign rfl) ?_)
  refine Wp_eff (h1 := h8) [0, 1, 2, 3, 4, 5, 6, 7, 8, 9, 10, 11, 12, 13, 14, 15, 16, 17] (by kernel_rfl) rfl (by refine Stl_pure (i := 16) rfl rfl rfl rfl rfl (fun _ => A_extract rfl rfl) rfl ?_; exact Stl_nil rfl) rfl rfl rfl (W1_op rfl rfl (A_assign rfl) ?_)
  refine Wp_end (Stl_nil rfl) rfl ?_
  refine Wc_seq ?_; refine Wc_seq ?_; refine Wc_region ?_; refine Wo_do rfl rfl rfl rfl (A_move rfl) ?_
  refine Wo_do rfl rfl rfl rfl (A_ff (fun x => x rfl) (A_neq rfl rfl)) ?_
  replace hFv := hFv.keep fun b o _ hg => hE8.get (hk6 b o hg)
  have hsucc := tightL_succ (t := t) (l := l) (n := n) (i := i) (by omega) hbf4
  replace hE := hE6.trans hE8
  clear hs9 hs7 hF7 hF6 hF5 hz5 hz0 hs0 hat5 hpp hg15 hg16 hE6 hE8 hK6 hK5 hE5 hE4 hg1 hall hx5 hx6 hv5 hv6
  have hi1 : i < l.length := by omega
  cases b4
  · rw [if_neg (by simp), List.append_nil] at hsucc
    refine Wo_nil ?_; refine Wc_condF rfl ?_; refine Wc_skip ?_; refine Wc_seq ?_; refine Wc_region ?_; refine Wo_do rfl rfl rfl rfl (A_move rfl) ?_; refine Wo_nil ?_; refine Wc_condF rfl ?_; refine Wc_skip ?_; refine Wc_region ?_; refine Wo_do rfl rfl rfl rfl (A_move rfl) ?_; refine Wo_do rfl rfl rfl rfl (A_ad rfl rfl) ?_; refine Wo_do rfl rfl rfl rfl (A_assign rfl) ?_; refine Wo_nil ?_
    refine ⟨i + 1, ?_, rfl, hi', hE, hg18, v, by rw [hsucc]; exact hFv, rfl, rfl, rfl, rfl, rfl, trivial⟩
    show n - (i + 1) < n - i; omega
  rw [if_pos rfl] at hsucc
  obtain ⟨b', o', oa', eb, hci⟩ := (hp.at'.ext hE) i hi1
  cases eb
  have htl : (tightL t l n i).length ≤ 24 := by
    have := Go.Mt.nodup_le (tightL_nodup (t := t) (n := n) (k := i) hnd (by omega)) (m := l) (fun x hx => by
      obtain ⟨j, hj, _, rfl⟩ := mem_tightL.1 hx
      have h1 : j < l.length := by omega
      rw [List.getD_eq_getElem?_getD, List.getElem?_eq_getElem h1]
      exact List.getElem_mem h1)
    omega
  refine Wo_nil ?_; refine Wc_condF rfl ?_; refine Wc_skip ?_; refine Wc_seq ?_; refine Wc_region ?_; refine Wo_do rfl rfl rfl rfl (A_move rfl) ?_; refine Wo_nil ?_; refine Wc_condT rfl ?_; refine Wc_region ?_; refine Wo_do rfl rfl rfl rfl (A_move rfl) ?_; refine Wo_do rfl rfl rfl rfl (A_move rfl) ?_; refine Wo_do rfl rfl rfl rfl (A_move rfl) ?_
  refine Wo_do rfl rfl rfl rfl (A_ix Und.h Tsz.h rfl rfl) ?_
  refine Wo_do rfl rfl rfl rfl (A_ld OneC.h rfl) ?_
  refine Wo_bs rfl rfl Und.h Tsz.h Zr.h rfl rfl rfl rfl rfl fun h9 hE9 hW9 hg9 hx9 => ?_
  skip
  refine Wo_appendF (by' := 8) (k := 1) (n := (l[n] :: tightL t l n i).length) (l := [i64 l[i]]) hw (hE.trans hE9) rfl rfl rfl rfl rfl Und.h inferInstance rfl rfl (hFv.ext hE9) ((FreshSl.lit (h0 := h) (n := 1) (sz := 1) (cs := [i64 l[i]]) hg9 rfl hE.2.1).src (dd := .slice 3) Und.h (by intro k; simp)) rfl rfl (by simp only [List.length_cons]; omega) (by simp only [List.length_cons]; omega) fun v3 h3 hF3 hE3 hK3 hx3 hv3 => ?_
  have hg10 := hK3 _ _ (fun e => by
    obtain ⟨⟨op0, h7⟩, _⟩ := hFv.at3 e
    exact absurd (cells_el h7 hg18) (by decide)) (hE9.get hg18)
  refine Wo_do rfl rfl rfl rfl (A_assign rfl) ?_; refine Wo_nil ?_; refine Wc_region ?_; refine Wo_do rfl rfl rfl rfl (A_move rfl) ?_; refine Wo_do rfl rfl rfl rfl (A_ad rfl rfl) ?_; refine Wo_do rfl rfl rfl rfl (A_assign rfl) ?_; refine Wo_nil ?_
  refine ⟨i + 1, ?_, rfl, hi', hE3, hg10, v3, ?_, rfl, rfl, rfl, rfl, rfl, trivial⟩
  · show n - (i + 1) < n - i; omega
  · rw [hsucc, ← List.cons_append, List.map_append, List.length_append]
    exact hF3
end Go.Dw
