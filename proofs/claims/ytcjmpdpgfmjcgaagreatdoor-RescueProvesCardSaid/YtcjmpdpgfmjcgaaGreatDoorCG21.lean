/- Y8: RescuePlans: its contract, for any workshop. -/
import Derived.Test.YtcjmpdpgfmjcgaaGreatDoorCG3
import Derived.Test.YtcjmpdpgfmjcgaaGreatDoorCG19
import Derived.Test.YtcjmpdpgfmjcgaaGreatDoorCG16
import Derived.Test.YtcjmpdpgfmjcgaaGreatDoorCG20
import Derived.Test.YtcjmpdpgfmjcgaaGreatDoorCG9
import Derived.Test.YtcjmpdpgfmjcgaaGreatDoorCG12
namespace Go.Dw
open Go Go.Dx Go.Proofs Go.Mt
set_option maxRecDepth 100000
theorem turnsG_len : ∀ (l : List Nat) (u : Task), (turnsG u l).length ≤ l.length
  | [], _ => Nat.le_refl _
  | r :: rest, u => by
    unfold turnsG
    split
    · exact Nat.le_trans (turnsG_len rest u) (Nat.le_succ _)
    · rw [List.length_cons, List.length_cons]; exact Nat.succ_le_succ (turnsG_len rest _)
theorem lateL_len (t : Task) : (lateL t).length ≤ t.reels.length := by
  unfold lateL lateN
  rw [List.length_map]
  exact Nat.le_trans (List.length_filter_le _ _) (by rw [List.length_range]; exact Nat.le_refl _)
theorem plan_lens (t : Task) : (planS t).1.length ≤ 24 ∧ (planS t).2.1.length ≤ 24 ∧ ∀ x ∈ (planS t).2.1, x.Fit := by
  by_cases c0 : errS t = 0
  rotate_left
  · rw [planS_bad c0]
    exact ⟨Nat.zero_le _, Nat.zero_le _, fun x hx => (List.not_mem_nil hx).elim⟩
  rw [planS_ok c0]
  have hV := valid_of c0
  have hr := hV.r1
  refine ⟨?_, Nat.le_trans (lateL_len t) hr, fun x hx => ?_⟩
  · have h1 := turnsG_len (keptS t) t
    have h2 : (keptS t).length = (keptI t).length := List.length_map _
    have h3 := keptI_len t
    show (turnsG t (keptS t)).length ≤ 24
    omega
  · obtain ⟨r, hrl, rfl⟩ := List.mem_map.1 hx
    obtain ⟨h1, h2, _⟩ := late_law hV hrl
    have hrn : r < t.reels.length := List.mem_range.1 (List.mem_filter.1 hrl).1
    have h3 := nodup_le h1 fun x hx => (h2 x hx).1
    have h4 := (goT_sub t).length_le
    rw [(ordN_perm t).length_eq, List.length_range] at h4
    refine ⟨?_, ?_, fun n hn => ?_⟩
    · show I64 ((r : Nat) : Int)
      constructor <;> omega
    · show (sortI (ints (byOf t r))).length < 9223372036854775808
      rw [sortI_len, ints_len']; omega
    · have hn : n ∈ sortI (ints (byOf t r)) := hn
      obtain ⟨q, hq, rfl⟩ := List.mem_map.1 (mem_sortI.1 hn)
      have := goT_lt (h2 q hq).1
      constructor <;> omega
end Go.Dw
/- Y9: RescueBest: its contract, for any workshop and turns. -/
namespace Go.Dw
open Go Go.Dx Go.Proofs Go.Mt
set_option maxRecDepth 100000
theorem plan_turns_fit {t : Task} (hV : Valid t) : ∀ x ∈ turnsG t (keptS t), x.Fit := fun x hx => by
  obtain ⟨h1, h2, -⟩ := turnsG_ok hV (keptS_pw t) (fun _ => keptS_lt) (keptS_fit t)
  obtain ⟨m0, m1, hp⟩ := h2 x hx
  have hr : x.reel ∈ ints (keptS t) := by rw [← h1]; exact List.mem_map_of_mem hx
  obtain ⟨r, hr, e⟩ := List.mem_map.1 hr
  have hrl := keptS_lt hr
  have hrs := hV.rs _ (List.getElem_mem hrl)
  have f0 := hV.f0; have f1 := hV.f1; have d1 := hV.d1; have m4 := hV.m1; have r4 := hV.r1; have hla := hV.last
  have hp := of_decide_eq_true hp
  rw [← e, reelAt_nat hrl] at hp
  refine ⟨?_, ?_, ?_⟩
  · rw [← e]; constructor <;> omega
  · constructor <;> omega
  · constructor <;> omega
end Go.Dw
/- YA: RescueProves: its contract, for any workshop, turns and late reels. -/
namespace Go.Dw
open Go Go.Dx Go.Proofs Go.Mt
set_option maxRecDepth 100000
theorem rescueProves_sv {tc : List Value} {t : Task} {a0 al0 : Option Addr} {cap0 capl0 : Nat} {l0 : List Turn} {late0 : List Lat} {h : Heap} (ht : TaskAt h tc t) (hf : t.Fit) (hl : TurnsAt h a0 l0) (hlf : ∀ x ∈ l0, x.Fit) (hlen : Len l0) (hL0 : LatsAt h al0 late0) (hLf : ∀ x ∈ late0, x.Fit) (hLlen : Len late0) :
    Sv Tryz.prog 9 [.agg ⟨tc⟩, .slice a0 l0.length cap0, .slice al0 late0.length capl0] h (RetP fun v h' => v = .bool true ∧ Ext h h') := by
  have ht0 := ht
  obtain ⟨am, cm, ar, cr, rfl, hM, hR⟩ := ht
  obtain ⟨hl1, hl2, hl3⟩ := plan_lens t
  refine Sv_enter Tryz.func9 rfl (by rw [Tryz.ntmps9]; rfl) ?_; show Wc Tryz.prog ⟨9, 74, none⟩ _ _ _ _ _
  refine zz ?_
  refine Wo_box rfl rfl rfl fun h1 hE1 hW1 hg1 hn1 => ?_
  refine zz ?_
  refine Wo_callr rfl rfl rfl rfl rfl Bod.h rfl rfl (rescuePlan_sv (ht0.ext hE1) hf) ?_
  rintro _ h2 ⟨⟨a, al, rfl, hT, hL⟩, hE2⟩
  replace hg1 := hE2.get hg1
  replace hE1 := hE1.trans hE2
  refine zz ?_
  by_cases c0 : errS t = 0
  rotate_left
  · rw [planS_bad c0]
    refine Wo_do rfl rfl rfl rfl (A_tt c0 (A_neq rfl rfl)) ?_
    refine zz ?_
    refine Wo_callV rfl rfl rfl rfl rfl Bod.h rfl rfl (awake_sv _) ?_
    refine zz ?_
    exact Wc_ret (Lv_ret rfl ⟨rfl, hE1⟩)
  have hV := valid_of c0
  rw [planS_ok c0] at hT hL hl1 hl2 hl3 ⊢
  replace hl1 : (turnsG t (keptS t)).length ≤ 24 := hl1
  replace hl2 : (lateL t).length ≤ 24 := hl2
  have hln : Len (turnsG t (keptS t)) := by show (turnsG t (keptS t)).length < 9223372036854775808; omega
  have hll : Len (lateL t) := by show (lateL t).length < 9223372036854775808; omega
  refine Wo_do rfl rfl rfl rfl (A_ff (fun x => x rfl) (A_neq rfl rfl)) ?_
  refine zz ?_
  refine Wo_callE rfl rfl rfl rfl rfl Bod.h rfl rfl (rescueAccept_sv (ht0.ext hE1) hf hT (plan_turns_fit hV) hln hL hl3 hll) fun h3 hE3 => ?_
  rw [plan_accepted hV c0]
  replace hg1 := hE3.get hg1
  replace hE1 := hE1.trans hE3
  replace hT := hT.ext hE3
  unfold tup2
  refine zz ?_
  refine Wo_do rfl rfl rfl rfl (A_ff (fun x => x rfl) (A_neq rfl rfl)) ?_
  refine zz ?_
  refine Wo_do rfl rfl rfl rfl (A_ff (fun x => x rfl) (A_neq rfl rfl)) ?_
  refine zz ?_
  refine Wo_callE rfl rfl rfl rfl rfl Bod.h rfl rfl (rescueAccept_sv (ht0.ext hE1) hf (hl.ext hE1) hlf hlen (hL0.ext hE1) hLf hLlen) fun h4 hE4 => ?_
  obtain ⟨xa, xe, hx⟩ : ∃ xa xe, acceptS t l0 late0 = (xa, xe) := ⟨_, _, rfl⟩
  rw [hx]
  replace hg1 := hE4.get hg1
  replace hE1 := hE1.trans hE4
  replace hT := hT.ext hE4
  unfold tup2
  refine zz ?_
  refine Wo_callE rfl rfl rfl rfl rfl Bod.h rfl rfl (rescueJudge_sv (ht0.ext hE1) hf hT (plan_turns_fit hV) hln) fun h5 hE5 => ?_
  have hJ : judgeS t (turnsG t (keptS t)) = (leftS t (turnsG t (keptS t)), 0) := by rw [judgeS, if_neg (fun x => x c0), if_neg (fun x => x (plan_judged hV))]
  rw [hJ]
  replace hg1 := hE5.get hg1
  replace hE1 := hE1.trans hE5
  unfold tup2
  refine zz ?_
  refine Wo_callE rfl rfl rfl rfl rfl Bod.h rfl rfl (rescueJudge_sv (ht0.ext hE1) hf (hl.ext hE1) hlf hlen) fun h6 hE6 => ?_
  replace hE1 := hE1.trans hE6
  unfold tup2
  refine zz ?_
  refine Wo_do rfl rfl rfl rfl (A_tt rfl (A_eql rfl rfl)) ?_
  refine zz ?_
  by_cases c1 : xe = 0
  rotate_left
  · refine Wo_do rfl rfl rfl rfl (A_tt c1 (A_neq rfl rfl)) ?_
    refine zz ?_
    refine Wo_callV rfl rfl rfl rfl rfl Bod.h rfl rfl (awake_sv _) ?_
    refine zz ?_
    exact Wc_ret (Lv_ret rfl ⟨rfl, hE1⟩)
  subst c1
  obtain ⟨k1, k2⟩ := accepted_best hV hx
  have hJ2 : judgeS t l0 = (leftS t l0, 0) := by rw [judgeS, if_neg (fun x => x c0), if_neg (fun x => x k1)]
  rw [hJ2]
  refine Wo_do rfl rfl rfl rfl (A_ff (fun x => x rfl) (A_neq rfl rfl)) ?_
  refine zz ?_
  refine Wo_do rfl rfl rfl rfl (A_tt rfl (A_eql rfl rfl)) ?_
  refine zz ?_
  refine Wo_do rfl rfl rfl rfl (A_tt k2.symm (A_eql rfl rfl)) ?_
  refine zz ?_
  refine Wo_callV rfl rfl rfl rfl rfl Bod.h rfl rfl (awake_sv _) ?_
  refine zz ?_
  exact Wc_ret (Lv_ret rfl ⟨rfl, hE1⟩)
end Go.Dw
