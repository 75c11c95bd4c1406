/- L1: ScreenChecks: its contract, for any task. -/
import Derived.Test.YtfgeelpahicelaaGreatDoorPG2
import Derived.Test.YtfgeelpahicelaaGreatDoorPG9
import Derived.Test.YtfgeelpahicelaaGreatDoorPRunA
namespace Go.Dw
open Go Go.Dx Go.Proofs
set_option maxRecDepth 100000
theorem awake_sv {h : Heap} (hT : TabAt spTab h) : Sv Tryz.prog 23 [] h (RetP fun v h' => v = .bool true /\ h' = h) := Sv_orcT Go.Dx.awake hT
theorem loansS_len {t : ScT} (hO : ScOk t) : (loansS t).2.length = t.loans.length := by rw [<- lpre_all]; exact (lpre_ok hO (Nat.le_refl _)).2.2
theorem screenChecks_sv {tc : List Value} {t : ScT} {h : Heap} (ht : ScTAt h tc t) (hT : t.Fit) (hTb : TabAt spTab h) : Sv Tryz.prog 3 [.agg ⟨tc⟩] h (RetP fun v h' => v = .bool true /\ Ext h h') := by
  have ht0 := ht
  obtain ⟨al, cl, at', ct, a1, c1, a2, c2, a3, c3, a4, c4, a5, c5, a6, c6, rfl, -⟩ := ht
  refine Sv_wf fun hw => ?_
  refine Sv_enter Tryz.func3 rfl (by rw [Tryz.ntmps3]; rfl) ?_; show Wc Tryz.prog ⟨3, 57, none⟩ _ _ _ _ _
  refine zy ?_
  refine Wo_box rfl rfl rfl fun h1 hE hW1 hg1 hn1 => ?_
  generalize h.nx = b1 at *
  refine zy ?_
  refine Wo_callE rfl rfl rfl rfl rfl Bod.h rfl rfl (scCheck_sv (ht0.ext hE) hT) fun h2 hE2 => ?_
  replace hE := hE.trans hE2
  replace hg1 := hE2.get hg1
  refine zy ?_
  refine Wo_callE rfl rfl rfl rfl rfl Bod.h rfl rfl (refScCheck_sv (ht0.ext hE) hT) fun h3 hE3 => ?_
  replace hE := hE.trans hE3
  replace hg1 := hE3.get hg1
  refine zy ?_
  refine Wo_dec rfl rfl rfl rfl (A_neq rfl rfl) (fun h4 => ?_) (fun h4 => ?_)
  · exact absurd rfl h4
  refine zy ?_
  refine Wo_dec rfl rfl rfl rfl (A_neq rfl rfl) (fun h5 => ?_) (fun h5 => ?_)
  · exact absurd rfl h5
  refine zy ?_
  refine Wo_dec rfl rfl rfl rfl (A_neq rfl rfl) (fun h6 => ?_) (fun h6 => ?_)
  · exact absurd rfl h6
  refine zy ?_
  refine Wo_callr rfl rfl rfl rfl rfl Bod.h rfl rfl (scLoans_sv (ht0.ext hE) hT) ?_
  rintro v h7 ⟨hE7, hv⟩
  replace hE := hE.trans hE7
  replace hg1 := hE7.get hg1
  rcases hv with ⟨he, rfl⟩ | ⟨he, a, c, rfl, hI⟩
  · refine zy ?_
    refine Wo_callr rfl rfl rfl rfl rfl Bod.h rfl rfl (refScLoans_sv (ht0.ext hE) hT) ?_
    rintro v h8 ⟨hE8, hv⟩
    replace hE := hE.trans hE8
    rcases hv with ⟨he', rfl⟩ | ⟨he', _⟩
    rotate_left
    · exact absurd he' he
    refine zy ?_
    refine Wo_callV rfl rfl rfl rfl rfl Bod.h rfl rfl (refErrors_sv (l := []) (l' := []) (fun _ hi => absurd hi (Nat.not_lt_zero _)) (fun _ hi => absurd hi (Nat.not_lt_zero _)) (by decide) (by decide)) ?_
    refine zy ?_
    refine Wo_dec rfl rfl rfl rfl (A_eql rfl rfl) (fun h9 => ?_) (fun h9 => ?_)
    rotate_left
    · exact absurd rfl h9
    refine zy ?_
    refine Wo_callV rfl rfl rfl rfl rfl Bod.h rfl rfl (awake_sv (hTb.ext hE)) ?_
    refine zy ?_
    exact Wc_ret (Lv_ret rfl ⟨rfl, hE⟩)
  · have hO := sc_ok he
    have hll := loansS_len hO
    have hlt := hO.loans1
    refine zy ?_
    refine Wo_callr rfl rfl rfl rfl rfl Bod.h rfl rfl (refScLoans_sv (ht0.ext hE) hT) ?_
    rintro v h8 ⟨hE8, hv⟩
    replace hE := hE.trans hE8
    rcases hv with ⟨he', _⟩ | ⟨_, a', c', rfl, hI'⟩
    · exact absurd he he'
    refine zy ?_
    refine Wo_callV rfl rfl rfl rfl rfl Bod.h rfl rfl (refErrors_sv (hI.ext hE8) hI' (by omega) (by omega)) ?_
    rw [decide_eq_true rfl]
    refine zy ?_
    refine Wo_dec rfl rfl rfl rfl (A_eql rfl rfl) (fun h9 => ?_) (fun h9 => ?_)
    rotate_left
    · exact absurd rfl h9
    refine zy ?_
    refine Wo_callV rfl rfl rfl rfl rfl Bod.h rfl rfl (awake_sv (hTb.ext hE)) ?_
    refine zy ?_
    exact Wc_ret (Lv_ret rfl ⟨rfl, hE⟩)
end Go.Dw
