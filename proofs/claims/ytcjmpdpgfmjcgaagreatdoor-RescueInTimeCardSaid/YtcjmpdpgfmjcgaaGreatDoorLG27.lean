/- FA: RescueInTime: its contract, for any task, course, last day and margin. -/
import Derived.Test.YtcjmpdpgfmjcgaaGreatDoorLG2
import Derived.Test.YtcjmpdpgfmjcgaaGreatDoorLG23
import Derived.Test.YtcjmpdpgfmjcgaaGreatDoorLG26
namespace Go.Dw
open Go Go.Dx Go.Proofs
set_option maxRecDepth 100000
def tkB (B : List (Nat × Int)) (i k : Nat) : Bool := (B.take k).all fun x => decide (x.1 ≠ i)
theorem tkB_succ {B : List (Nat × Int)} {i k : Nat} (hk : k < B.length) : tkB B i (k + 1) = (tkB B i k && decide (B[k].1 ≠ i)) := by
 unfold tkB
 rw [take_succ hk, List.all_append]; simp
theorem tkB_end {t : DTask} {B : List (Nat × Int)} {i : Nat} (hb : B.map Prod.fst = (stD t t.days.length).bad) : tkB B i B.length = true ↔ i ∉ (stD t t.days.length).bad := by
 unfold tkB
 rw [List.take_length, <- hb, List.all_eq_true]
 constructor
 ·intro h hm
  obtain ⟨x, hx, rfl⟩ := List.mem_map.1 hm
  exact of_decide_eq_true (h x hx) rfl
 ·intro h x hx
  exact decide_eq_true fun e => h (List.mem_map.2 ⟨x, hx, e⟩)
def condT (t : DTask) (l : List Int) (k : Nat) : Prop := gradeOf t.rule.grades (l.getD (dayN t k) 0) - (testAt t k).grade <= (testAt t k).error /\ (testAt t k).grade - gradeOf t.rule.grades (l.getD (dayN t k) 0) <= (testAt t k).error
theorem ruleErr0 {t : DTask} (h : dErr t = 0) : ruleErr t.rule = 0 := by
 unfold dErr at h
 split at h
 ·rename_i h1; exact absurd h h1
 ·rename_i h1; exact Classical.byContradiction fun hn => h1 hn
theorem gradeOf_rng {a b c n : Int} : 0 <= gradeOf [a, b, c] n /\ gradeOf [a, b, c] n <= 3 := by
 unfold gradeOf
 have := List.length_filter_le (fun x => decide (x <= n)) [a, b, c]
 simp only [List.length_cons, List.length_nil] at this
 omega
theorem bad_len {t : DTask} (h : DOk t) : (stD t t.days.length).bad.length <= 20 := by
 obtain ⟨e1, e2⟩ := take_good h
 have hp := take_perm (t := t) (l := ordD t) (st := ⟨t.start, 0, [], []⟩)
 rw [e1, e2] at hp
 have hp : ((stD t t.days.length).good ++ (stD t t.days.length).bad).Perm (ordD t) := hp
 have h1 := hp.length_eq
 have h2 := (ordD_perm t).length_eq
 have h3 := h.tests1
 rw [List.length_append] at h1
 rw [List.length_range] at h2
 omega
set_option maxHeartbeats 8000000 in
theorem rescueInTime_sv {tr : List Value} {t : DTask} {ac : Option Addr} {cc : Nat} {l : List Int} {y0 y1 : Int} {h : Heap} (ht : DTaskAt h tr t) (hf : t.Fit) (hI : IntsAt h ac l) (hlL : Len l) (hy0 : I64 y0) (hy1 : I64 y1) :
  Sv Tryz.prog 17 [.agg ⟨tr⟩, .slice ac l.length cc, .agg ⟨[i64 y0, i64 y1]⟩] h (RetP fun v h' => v = .bool true /\ Ext h h') := by
 have ht0 := ht
 obtain ⟨rr, ad, cd, ats, ct, hr0, rfl, hDs, hTs⟩ := ht
 have hr00 := hr0
 obtain ⟨ah, ch, aw, cw, g0, g1', g2', hge, rfl, _, _⟩ := hr0
 have hlL' : l.length < 9223372036854775808 := hlL
 have hyl : -9223372036854775808 <= y0 := hy0.1
 have hyh : y0 <= 9223372036854775807 := by have := hy0.2; omega
 refine Sv_enter Tryz.func17 rfl (by rw [Tryz.ntmps17]; rfl) ?_; show Wc Tryz.prog ⟨17, 188, none⟩ _ _ _ _ _
 refine zy ?_
 refine Wo_box rfl rfl rfl fun h1 hE1 hW1 hg3 hn1 => ?_
 refine Wo_box rfl rfl rfl fun h2 hE2 hW2 hg5 hn2 => ?_
 replace hg3 := hE2.get hg3
 have hE := hE1.trans hE2
 generalize h.nx = b3 at *
 generalize h1.nx = b5 at *
 clear hE1 hE2 hW1 hW2 hn1 hn2
 clear h1
 refine zy ?_
 refine Wo_do rfl rfl rfl rfl (A_indexArr (k := 0) Und.h Tsz.h rfl rfl rfl (by decide)) ?_
 refine zy ?_
 refine Wo_do rfl rfl rfl rfl (A_indexArr (k := 1) Und.h Tsz.h rfl rfl rfl (by decide)) ?_
 refine zy ?_
 refine Wo_callr rfl rfl rfl rfl rfl Bod.h rfl rfl (due_sv (ht0.ext hE) hf hy0 hy1) ?_
 rintro v h3 ⟨hv, hE3⟩
 replace hg3 := hE3.get hg3
 replace hg5 := hE3.get hg5
 replace hE := hE.trans hE3
 obtain ⟨d, ed, rfl⟩ : ∃ a b, v = .tuple ⟨[i64 a, i64 b]⟩ := by
  rcases hv with ⟨_, rfl⟩ | ⟨_, f, _, rfl⟩
  ·exact ⟨_, _, rfl⟩
  ·exact ⟨_, _, rfl⟩
 clear hE3
 refine zy ?_
 refine Wo_callr rfl rfl rfl rfl rfl Bod.h rfl rfl (own_sv (ht0.ext hE) hf (hI.ext hE) hlL) ?_
 rintro _ h4 ⟨⟨ow, eo, rfl, hown⟩, hE4⟩
 replace hg3 := hE4.get hg3
 replace hg5 := hE4.get hg5
 replace hE := hE.trans hE4
 clear hE4
 refine zy ?_
 refine Wo_callr rfl rfl rfl rfl rfl Bod.h rfl rfl (levelsP_sv (ht0.ext hE) hf) ?_
 rintro w h5 ⟨hw, hE5⟩
 replace hg3 := hE5.get hg3
 replace hg5 := hE5.get hg5
 replace hE := hE.trans hE5
 clear hE5
 clear h2 h3 h4
 rcases hw with ⟨c0, rfl⟩ | ⟨c0, aL, a3, c3, f, B, rfl, hRl, hBL, hBb, hBr⟩
 ·refine zy ?_
  refine Wo_dec rfl rfl rfl rfl (A_neq rfl rfl) (fun z1 => ?_) (fun z1 => ?_)
  ·refine zy ?_
   refine Wo_callV rfl rfl rfl rfl rfl Bod.h rfl rfl (awake_sv _) ?_
   refine zy ?_
   exact Wc_ret (Lv_ret rfl ⟨rfl, hE⟩)
  refine zy ?_
  refine Wo_dec rfl rfl rfl rfl (A_neq rfl rfl) (fun z2 => ?_) (fun z2 => ?_)
  ·refine zy ?_
   refine Wo_callV rfl rfl rfl rfl rfl Bod.h rfl rfl (awake_sv _) ?_
   refine zy ?_
   exact Wc_ret (Lv_ret rfl ⟨rfl, hE⟩)
  refine zy ?_
  refine Wo_do rfl rfl rfl rfl (A_tt c0 (A_neq rfl rfl)) ?_
  refine zy ?_
  refine Wo_callV rfl rfl rfl rfl rfl Bod.h rfl rfl (awake_sv _) ?_
  refine zy ?_
  exact Wc_ret (Lv_ret rfl ⟨rfl, hE⟩)
 refine zy ?_
 refine Wo_dec rfl rfl rfl rfl (A_neq rfl rfl) (fun z1 => ?_) (fun z1 => ?_)
 ·refine zy ?_
  refine Wo_callV rfl rfl rfl rfl rfl Bod.h rfl rfl (awake_sv _) ?_
  refine zy ?_
  exact Wc_ret (Lv_ret rfl ⟨rfl, hE⟩)
 refine zy ?_
 refine Wo_dec rfl rfl rfl rfl (A_neq rfl rfl) (fun z2 => ?_) (fun z2 => ?_)
 ·refine zy ?_
  refine Wo_callV rfl rfl rfl rfl rfl Bod.h rfl rfl (awake_sv _) ?_
  refine zy ?_
  exact Wc_ret (Lv_ret rfl ⟨rfl, hE⟩)
 refine zy ?_
 refine Wo_do rfl rfl rfl rfl (A_ff (fun x => x rfl) (A_neq rfl rfl)) ?_
 refine zy ?_
 refine Wo_dec rfl rfl rfl rfl (A_neq rfl rfl) (fun z3 => ?_) (fun z3 => ?_)
 ·refine zy ?_
  refine Wo_callV rfl rfl rfl rfl rfl Bod.h rfl rfl (awake_sv _) ?_
  refine zy ?_
  exact Wc_ret (Lv_ret rfl ⟨rfl, hE⟩)
 have z1 : ed = 0 := Classical.byContradiction z1
 have z2 : eo = 0 := Classical.byContradiction z2
 have z3 : ow = -1 := Classical.byContradiction z3
 obtain ⟨_, hcl, hC⟩ := hown z2 z3
 have hD := d_ok c0
 have hd : dueS t.first t.days.length (lostLo t.rule.lost t.first (knownL t f)) y0 y1 = (d, 0) := by
  rcases hv with ⟨hn, _⟩ | ⟨_, f', hB', e⟩
  ·exact absurd c0 hn
  ·rw [hB'.same hBL] at e
   simp only [Value.tuple.injEq, Array.mk.injEq, List.cons.injEq, Value.int.injEq, true_and, and_true] at e
   rw [<- z1, e.1, e.2]
 obtain ⟨_, r1, r2, r3, _⟩ := due_rng hd
 have hf0 := hD.first0
 have hf1 := hD.last
 have hd1 := hD.days1
 have ht1 := hD.tests1
 have hB1 : B.length <= 20 := by
  have := bad_len hD
  rw [<- hBb, List.length_map] at this
  exact this
 have hnl := fun (hk : ∀ k, k < t.tests.length -> k ∉ (stD t t.days.length).bad -> condT t l k) (i : Nat) (hi : t.first + (i : Int) <= d) => not_lost hD hC hk (by rw [hge]; rfl) hBL hd hi
 refine zy ?_
 refine Wo_do rfl rfl rfl rfl (A_ff (show ¬ d < t.first by omega) (A_lss rfl rfl)) ?_
 refine zy ?_
 refine Wo_do rfl rfl rfl rfl (A_indexArr (k := 0) Und.h Tsz.h rfl rfl rfl (by decide)) ?_
 refine zy ?_
 refine Wo_do rfl rfl rfl rfl (A_ff (show ¬ y0 < d by omega) (A_gtr rfl rfl)) ?_
 refine zy ?_
 refine Wo_do rfl rfl rfl rfl (A_ff (show ¬ ¬ ((t.days.length + 1 : Nat) : Int) = ((l.length : Nat) : Int) by omega) (A_neq rfl rfl)) ?_
 refine zy ?_
 refine Wo_do rfl rfl rfl rfl (A_ff (show ¬ ((l.length : Nat) : Int) <= d - t.first by omega) (A_geq rfl rfl)) ?_
 refine zy ?_
 clear hv hd hown hBL hRl z1 z2 z3
 refine Wc_loop (fun (i : Nat) m ds h' => ds = [] /\ i <= t.tests.length /\ Ext h5 h' /\ (∀ k, k < i -> k ∉ (stD t t.days.length).bad -> condT t l k) /\ AllK m [(1, .slice ac l.length cc), (3, ptr b3), (7, i64 d), (12, .slice a3 B.length c3), (14, i64 (i : Nat))]) (fun i => t.tests.length - i) 0 ?_ ?_
 ·exact ⟨rfl, Nat.zero_le _, Ext.refl _, (fun _ hk => absurd hk (Nat.not_lt_zero _)), rfl, rfl, rfl, rfl, rfl, trivial⟩
 rintro i m ds h6 ⟨rfl, hi, hE6, hcd, hall⟩
 have hE' := hE.trans hE6
 have k3 := hE6.get hg3
 refine Wc.le ?_ (Le.kn hall)
 refine zy ?_
 refine Wo_dec rfl rfl rfl rfl (A_lss rfl rfl) (fun hip => ?_) (fun hip => ?_)
 rotate_left
 ·have hii : i = t.tests.length := by omega
  subst hii
  refine zy ?_
  refine Wc_loop (fun (j : Nat) m ds h' => ds = [] /\ h6 = h' /\ (j : Int) <= d - t.first + 1 /\ AllK m [(1, .slice ac l.length cc), (3, ptr b3), (7, i64 d), (20, i64 (j : Nat))]) (fun j => (d - t.first + 1 - j).toNat) 0 ?_ ?_
  ·exact ⟨rfl, rfl, (by omega), rfl, rfl, rfl, rfl, trivial⟩
  rintro j m ds _ ⟨rfl, rfl, hj, hall⟩
  refine Wc.le ?_ (Le.kn hall)
  refine zy ?_
  refine Wo_dec rfl rfl rfl rfl (A_leq rfl rfl) (fun hjp => ?_) (fun hjp => ?_)
  rotate_left
  ·refine zy ?_
   refine Wo_callV rfl rfl rfl rfl rfl Bod.h rfl rfl (awake_sv _) ?_
   refine zy ?_
   exact Wc_ret (Lv_ret rfl ⟨rfl, hE'⟩)
  have hjl : j < l.length := by omega
  obtain ⟨bc, oc, oac, rfl, hc0⟩ := hI j hjl
  have hc := hE'.cell hc0
  have hlt := hnl hcd j (by omega)
  have hgd : l.getD j 0 = l[j] := by rw [List.getD_eq_getElem?_getD, List.getElem?_eq_getElem hjl]; rfl
  rw [hgd] at hlt
  generalize l[j] = x at *
  refine zy ?_
  refine Wc_draw hmix [0, 0, 3, 7, 0, 16, 48, 127] [0, 1, 2, 3, 4, 5, 6, 7] none [] (by kernel_rfl) (by kernel_rfl) ?_
  refine z_m ?_; refine z_m ?_; refine z_i ?_; refine z_l ?_; refine z_f ?_; refine z_f ?_; refine z_l ?_; refine Wp_pure rfl rfl rfl rfl rfl (fun _ => A_ff (show ¬ t.rule.lost <= x by omega) (A_geq rfl rfl)) ?_
  refine Wp_end (Stl_nil rfl) nb' ?_
  refine zy ?_
  exact ⟨j + 1, (by show (d - t.first + 1 - (j + 1 : Nat)).toNat < (d - t.first + 1 - (j : Nat)).toNat; omega), rfl, rfl, by omega, rfl, rfl, rfl, rfl, trivial⟩
 have hit : i < t.tests.length := by omega
 refine zy ?_
 refine Wc.mono (Q := fun x m' ds' h' => x = .exit 2 /\ ds' = [] /\ h6 = h' /\ AllK m' [(1, .slice ac l.length cc), (3, ptr b3), (7, i64 d), (12, .slice a3 B.length c3), (14, i64 (i : Nat)), (15, .bool (tkB B i B.length))]) ?_ ?_
 ·refine Wc_loop (fun (k : Nat) m ds h' => ds = [] /\ h6 = h' /\ k <= B.length /\ AllK m [(1, .slice ac l.length cc), (3, ptr b3), (7, i64 d), (12, .slice a3 B.length c3), (14, i64 (i : Nat)), (15, .bool (tkB B i k)), (16, i64 (k : Nat))]) (fun k => B.length - k) 0 ?_ ?_
  ·exact ⟨rfl, rfl, Nat.zero_le _, rfl, rfl, rfl, rfl, rfl, rfl, rfl, trivial⟩
  rintro k m ds _ ⟨rfl, rfl, hk, hall⟩
  refine Wc.le ?_ (Le.kn hall)
  refine zy ?_
  refine Wo_dec rfl rfl rfl rfl (A_lss rfl rfl) (fun hkp => ?_) (fun hkp => ?_)
  rotate_left
  ·have hkk : k = B.length := by omega
   subst hkk
   refine zy ?_
   exact ⟨rfl, rfl, rfl, rfl, rfl, rfl, rfl, rfl, rfl, trivial⟩
  have hkl : k < B.length := by omega
  have hts := tkB_succ (i := i) hkl
  cases htk : tkB B i k
  ·rw [htk, Bool.false_and] at hts
   refine zy ?_
   refine ⟨k + 1, (by show B.length - (k + 1) < B.length - k; omega), rfl, rfl, hkl, rfl, rfl, rfl, rfl, rfl, ?_, rfl, trivial⟩
   rw [hts]; rfl
  ·rw [htk, Bool.true_and] at hts
   obtain ⟨bB, oB, oaB, rfl, row, hrow, rfl⟩ := hBr k hkl
   have hc := hE6.cell (cell_of_row (k := 0) hrow rfl)
   refine zy ?_
   refine Wo_do rfl rfl rfl rfl (A_ix Und.h Tsz.h rfl rfl) ?_
   refine zy ?_
   refine Wo_do rfl rfl rfl rfl (A_neq rfl rfl) ?_
   refine zy ?_
   refine ⟨k + 1, (by show B.length - (k + 1) < B.length - k; omega), rfl, rfl, hkl, rfl, rfl, rfl, rfl, rfl, ?_, rfl, trivial⟩
   rw [hts]
   show some (Value.bool (decide (¬ ((B[k].1 : Nat) : Int) = ((i : Nat) : Int)))) = some (.bool (decide (B[k].1 ≠ i)))
   congr 2
   simp [Int.ofNat_inj]
 rintro _ m _ _ ⟨rfl, rfl, rfl, hall⟩
 show Wc _ _ _ _ _ _ _
 refine Wc.le ?_ (Le.kn hall)
 have htk := tkB_end (i := i) hBb
 generalize tkB B i B.length = tk at *
 have hti := testAt_eq hit
 have hto := hD.tests _ (List.getElem_mem hit)
 have hy0' := hto.d0
 have hy1' := hto.d1
 obtain ⟨hdn1, hdn2⟩ := dayN_le hD hit
 rw [hti] at hdn2
 have hdl : dayN t i < l.length := by omega
 obtain ⟨bT, oT, oaT, rfl, hrow0, hday0, hgr0, her0⟩ := TestR.at hTs hit
 have hday := hE'.cell hday0
 have hgr := hE'.cell hgr0
 have her := hE'.cell her0
 obtain ⟨bc, oc, oac, rfl, hc0⟩ := hI (dayN t i) hdl
 have hc := hE'.cell hc0
 have hgd : l.getD (dayN t i) 0 = l[dayN t i] := by rw [List.getD_eq_getElem?_getD, List.getElem?_eq_getElem hdl]; rfl
 have hrng := course_rng hD hC hdn1
 have hrng' : 0 <= l[dayN t i] /\ l[dayN t i] <= 1000000 := by rw [<- hgd]; exact hrng
 have hcond : condT t l i ↔ (gradeOf t.rule.grades l[dayN t i] - t.tests[i].grade <= t.tests[i].error /\ t.tests[i].grade - gradeOf t.rule.grades l[dayN t i] <= t.tests[i].error) := by unfold condT; rw [hgd, hti]
 have e0 := hto.g0
 have e1 := hto.g1
 have e2 := hto.e0
 have e3 := hto.e1
 generalize l[dayN t i] = x at *
 refine zy ?_
 refine Wc_draw hmix [0, 1, 0, 7, 15, 31, 0, 64, 255, 511] [0, 1, 2, 3, 4, 5, 6, 7, 8] (some 9) [([], none)] (by kernel_rfl) (by kernel_rfl) ?_
 refine z_f ?_; refine z_l ?_; refine z_m ?_; refine z_i ?_; refine z_f ?_; refine z_l ?_; refine z_f ?_; refine z_l ?_; refine z_u ?_
 refine Wp_eff [0, 1, 2, 3, 4, 5, 6, 7, 8] (by kernel_rfl) rfl (Stl_nil rfl) rfl nb rfl (W1_op rfl rfl (A_assign rfl) ?_)
 refine Wp_end (Stl_nil rfl) nb' ?_
 rw [hdn2]
 refine zy ?_
 refine Wo_do rfl rfl rfl rfl (A_ff (show ¬ ((dayN t i : Nat) : Int) < 0 by omega) (A_lss rfl rfl)) ?_
 refine zy ?_
 refine Wo_do rfl rfl rfl rfl (A_ff (show ¬ ((l.length : Nat) : Int) <= ((dayN t i : Nat) : Int) by omega) (A_geq rfl rfl)) ?_
 refine zy ?_
 refine Wc_draw hmix [0, 1, 0, 0, 12, 28, 63, 127, 255, 255, 511, 2047] [0, 1, 2, 3, 4, 5] (some 6) [([7, 8, 9], (some 10)), ([], (some 11)), ([], none)] (by kernel_rfl) (by kernel_rfl) ?_
 refine z_f ?_; refine z_r ?_; refine z_m ?_; refine z_m ?_; refine z_i ?_; refine z_l ?_
 refine Wp_eff [0, 1, 2, 3, 4, 5] (by kernel_rfl) rfl (Stl_nil rfl) rfl nb rfl (W1_callE rfl rfl rfl rfl rfl Bod.h (grade_sv (hr00.ext hE') hf.rule (ruleErr0 c0) hD.rule hrng'.1 hrng'.2) (fun h7 hE7 => ?_))
 refine z_m ?_; refine z_e ?_; refine z_e ?_
 refine Wp_eff [0, 1, 2, 3, 4, 5, 6, 7, 8] (by kernel_rfl) rfl (Stl_nil rfl) rfl nb rfl (W1_op rfl rfl (A_assign rfl) ?_)
 refine Wp_eff [0, 1, 2, 3, 4, 5, 6, 7, 8, 9, 10] (by kernel_rfl) rfl (by refine t_e 9 ?_; exact Stl_nil rfl) rfl nb rfl (W1_op rfl rfl (A_assign rfl) ?_)
 refine Wp_end (Stl_nil rfl) nb' ?_
 have hE57 := hE6.trans hE7
 have hE07 := hE'.trans hE7
 have k37 := hE7.get k3
 have hday7 := hE7.cell hday
 have hgr7 := hE7.cell hgr
 have her7 := hE7.cell her
 have hgx := gradeOf_rng (a := g0) (b := g1') (c := g2') (n := x)
 rw [<- hge] at hgx
 generalize gradeOf t.rule.grades x = gx at *
 refine zy ?_
 refine Wo_do rfl rfl rfl rfl (A_ff (fun x => x rfl) (A_neq rfl rfl)) ?_
 refine zy ?_
 cases tk
 ·refine Wc_draw hmix [0, 1, 3, 3, 11, 3, 59, 123, 251, 511, 3, 1027, 3, 7171, 15363, 31747, 65535, 131071, 262143, 524287, 262143, 2097151, 4194303, 8388607, 262143, 33554431, 262143, 67371007, 262143, 470024191, 1006895103, 2080636927, 4294967295, 8589934591, 17179869183] [0, 1, 2, 3, 4, 5, 6, 7, 8, 9, 10, 11, 12, 13, 14, 15, 16, 17, 18, 19, 20, 21, 22, 23, 24, 25, 26, 27, 28, 29, 30, 31, 32, 33, 34] none [] (by kernel_rfl) (by kernel_rfl) ?_
  refine z_m ?_; refine z_m ?_; refine g_m ?_; refine g_f ?_; refine g_l ?_; refine g_m ?_; refine g_i ?_; refine g_f ?_; refine g_l ?_; refine g_u ?_; refine g_f ?_; refine g_l ?_; refine g_m ?_; refine g_i ?_; refine g_f ?_; refine g_l ?_; refine z_o ?_; refine g_m ?_; refine g_f ?_; refine g_l ?_; refine g_m ?_; refine g_i ?_; refine g_f ?_; refine g_l ?_; refine g_m ?_; refine g_u ?_; refine g_f ?_; refine g_l ?_; refine g_m ?_; refine g_i ?_; refine g_f ?_; refine g_l ?_; refine z_o ?_; refine g_p ?_; refine z_p ?_
  refine Wp_end (Stl_nil rfl) nb' ?_
  refine zy ?_
  refine ⟨i + 1, (by show t.tests.length - (i + 1) < t.tests.length - i; omega), rfl, hit, hE57, fun k hk hb => ?_, rfl, rfl, rfl, rfl, rfl, trivial⟩
  by_cases e : k = i
  ·subst e
   exact absurd (htk.2 hb) Bool.false_ne_true
  ·exact hcd k (by omega) hb
 ·by_cases c1 : t.tests[i].error < gx - t.tests[i].grade
  ·refine Wc_draw hmix [0, 1, 3, 3, 11, 3, 59, 123, 251, 511, 3, 1027, 3, 7171, 15363, 31747, 65535, 131071, 262143, 524287, 262143, 2097151, 4194303, 8388607, 262143, 33554431, 262143, 67371007, 262143, 470024191, 1006895103, 2080636927, 4294967295, 8589934591, 17179869183] [0, 1, 2, 3, 4, 5, 6, 7, 8, 9, 10, 11, 12, 13, 14, 15, 16, 17, 18, 19, 20, 21, 22, 23, 24, 25, 26, 27, 28, 29, 30, 31, 32, 33, 34] none [] (by kernel_rfl) (by kernel_rfl) ?_
   refine z_m ?_; refine z_m ?_; refine g_m ?_; refine g_f ?_; refine g_l ?_; refine g_m ?_; refine g_i ?_; refine g_f ?_; refine g_l ?_; refine g_u ?_; refine g_f ?_; refine g_l ?_; refine g_m ?_; refine g_i ?_; refine g_f ?_; refine g_l ?_
   first | refine Wp_off rfl rfl rfl rfl ?_ | refine Wp_pure rfl rfl rfl rfl rfl (fun _ => A_tt c1 (A_gtr rfl rfl)) ?_
   refine g_m ?_; refine g_f ?_; refine g_l ?_; refine g_m ?_; refine g_i ?_; refine g_f ?_; refine g_l ?_; refine g_m ?_; refine g_u ?_; refine g_f ?_; refine g_l ?_; refine g_m ?_; refine g_i ?_; refine g_f ?_; refine g_l ?_; refine z_o ?_; refine g_p ?_; refine z_p ?_
   refine Wp_end (Stl_nil rfl) nb' ?_
   refine zy ?_
   refine Wo_callV rfl rfl rfl rfl rfl Bod.h rfl rfl (awake_sv _) ?_
   refine zy ?_
   exact Wc_ret (Lv_ret rfl ⟨rfl, hE07⟩)
  by_cases c2 : t.tests[i].error < t.tests[i].grade - gx
  ·refine Wc_draw hmix [0, 1, 3, 3, 11, 3, 59, 123, 251, 511, 3, 1027, 3, 7171, 15363, 31747, 65535, 131071, 262143, 524287, 262143, 2097151, 4194303, 8388607, 262143, 33554431, 262143, 67371007, 262143, 470024191, 1006895103, 2080636927, 4294967295, 8589934591, 17179869183] [0, 1, 2, 3, 4, 5, 6, 7, 8, 9, 10, 11, 12, 13, 14, 15, 16, 17, 18, 19, 20, 21, 22, 23, 24, 25, 26, 27, 28, 29, 30, 31, 32, 33, 34] none [] (by kernel_rfl) (by kernel_rfl) ?_
   refine z_m ?_; refine z_m ?_; refine g_m ?_; refine g_f ?_; refine g_l ?_; refine g_m ?_; refine g_i ?_; refine g_f ?_; refine g_l ?_; refine g_u ?_; refine g_f ?_; refine g_l ?_; refine g_m ?_; refine g_i ?_; refine g_f ?_; refine g_l ?_
   first | refine Wp_off rfl rfl rfl rfl ?_ | refine Wp_pure rfl rfl rfl rfl rfl (fun _ => A_ff c1 (A_gtr rfl rfl)) ?_
   refine g_m ?_; refine g_f ?_; refine g_l ?_; refine g_m ?_; refine g_i ?_; refine g_f ?_; refine g_l ?_; refine g_m ?_; refine g_u ?_; refine g_f ?_; refine g_l ?_; refine g_m ?_; refine g_i ?_; refine g_f ?_; refine g_l ?_
   first | refine Wp_off rfl rfl rfl rfl ?_ | refine Wp_pure rfl rfl rfl rfl rfl (fun _ => A_tt c2 (A_gtr rfl rfl)) ?_
   refine g_p ?_; refine z_p ?_
   refine Wp_end (Stl_nil rfl) nb' ?_
   refine zy ?_
   refine Wo_callV rfl rfl rfl rfl rfl Bod.h rfl rfl (awake_sv _) ?_
   refine zy ?_
   exact Wc_ret (Lv_ret rfl ⟨rfl, hE07⟩)
  refine Wc_draw hmix [0, 1, 3, 3, 11, 3, 59, 123, 251, 511, 3, 1027, 3, 7171, 15363, 31747, 65535, 131071, 262143, 524287, 262143, 2097151, 4194303, 8388607, 262143, 33554431, 262143, 67371007, 262143, 470024191, 1006895103, 2080636927, 4294967295, 8589934591, 17179869183] [0, 1, 2, 3, 4, 5, 6, 7, 8, 9, 10, 11, 12, 13, 14, 15, 16, 17, 18, 19, 20, 21, 22, 23, 24, 25, 26, 27, 28, 29, 30, 31, 32, 33, 34] none [] (by kernel_rfl) (by kernel_rfl) ?_
  refine z_m ?_; refine z_m ?_; refine g_m ?_; refine g_f ?_; refine g_l ?_; refine g_m ?_; refine g_i ?_; refine g_f ?_; refine g_l ?_; refine g_u ?_; refine g_f ?_; refine g_l ?_; refine g_m ?_; refine g_i ?_; refine g_f ?_; refine g_l ?_
  first | refine Wp_off rfl rfl rfl rfl ?_ | refine Wp_pure rfl rfl rfl rfl rfl (fun _ => A_ff c1 (A_gtr rfl rfl)) ?_
  refine g_m ?_; refine g_f ?_; refine g_l ?_; refine g_m ?_; refine g_i ?_; refine g_f ?_; refine g_l ?_; refine g_m ?_; refine g_u ?_; refine g_f ?_; refine g_l ?_; refine g_m ?_; refine g_i ?_; refine g_f ?_; refine g_l ?_
  first | refine Wp_off rfl rfl rfl rfl ?_ | refine Wp_pure rfl rfl rfl rfl rfl (fun _ => A_ff c2 (A_gtr rfl rfl)) ?_
  refine g_p ?_; refine z_p ?_
  refine Wp_end (Stl_nil rfl) nb' ?_
  refine zy ?_
  refine ⟨i + 1, (by show t.tests.length - (i + 1) < t.tests.length - i; omega), rfl, hit, hE57, fun k hk hb => ?_, rfl, rfl, rfl, rfl, rfl, trivial⟩
  by_cases e : k = i
  ·subst e
   exact hcond.2 ⟨by omega, by omega⟩
  ·exact hcd k (by omega) hb
end Go.Dw
