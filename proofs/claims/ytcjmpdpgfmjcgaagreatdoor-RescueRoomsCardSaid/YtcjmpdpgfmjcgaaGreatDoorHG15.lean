/- W1: contracts: the reference's with, without, sorted. -/
import Derived.Test.YtcjmpdpgfmjcgaaGreatDoorHG2
import Derived.Test.YtcjmpdpgfmjcgaaGreatDoorHG14
import Derived.Test.YtcjmpdpgfmjcgaaGreatDoorHG11
namespace Go.Dw
open Go Go.Dx Go.Proofs
set_option maxRecDepth 100000
theorem refWith_sv {l : List Int} {x : Int} {h : Heap} {a : Option Addr} {cap : Nat} (hs : SrcAt i64 h a l) (hlen : l.length < 1000000) :
    Sv Tryz.prog 79 [.slice a l.length cap, i64 x] h (RetP fun v h' => FreshSl h h' v 3 1 ((l ++ [x]).map i64) (l ++ [x]).length /\ Ext h h') := by
  refine Sv_wf fun hw => ?_
  refine Sv_enter Tryz.func79 rfl (by rw [Tryz.ntmps79]; rfl) ?_; show Wc Tryz.prog ⟨79, 11, none⟩ _ _ _ _ _
  refine zz ?_
  refine Wo_bs rfl rfl Und.h Tsz.h Zr.h rfl rfl rfl rfl rfl fun h1 hE1 hW1 hg1 hx1 => ?_
  refine zz ?_
  refine Wo_appendF (by' := 8) (k := l.length) (n := 0) (l := l.map i64) hw hE1 rfl rfl rfl rfl rfl Und.h inferInstance rfl rfl (FreshSl.lit (n := 0) (sz := 1) (cs := []) hg1 rfl (Nat.le_refl _)) ((hs.ext hE1).src (dd := .slice 3) Und.h (by intro k; simp)) (by simp) (allOne_i64 _) (by omega) (by omega) fun v2 h2 hF2 hE2 hK2 hx2 hv2 => ?_
  refine zz ?_
  refine Wo_bs rfl rfl Und.h Tsz.h Zr.h rfl rfl rfl rfl rfl fun h3 hE3 hW3 hg3 hx3 => ?_
  refine zz ?_
  refine Wo_appendF (by' := 8) (k := 1) (n := 0 + l.length) (l := [i64 x]) hw (hE2.trans hE3) rfl rfl rfl rfl rfl Und.h inferInstance rfl rfl (hF2.ext hE3) ((FreshSl.lit (h0 := h) (n := 1) (sz := 1) (cs := [i64 x]) hg3 rfl hE2.2.1).src (dd := .slice 3) Und.h (by intro k; simp)) rfl rfl (by omega) (by omega) fun v4 h4 hF4 hE4 hK4 hx4 hv4 => ?_
  refine zz ?_
  refine Wc_ret (Lv_ret rfl ⟨?_, hE4⟩)
  rw [List.map_append, List.length_append, show l.length + [x].length = 0 + l.length + 1 by simp]
  exact hF4
theorem refWithout_sv {v : Value} {l : List Int} {i : Nat} {h0 h : Heap} (hF : FreshSl h0 h v 3 1 (l.map i64) l.length) (hi : i < l.length) (hlen : l.length < 1000000) :
    Sv Tryz.prog 108 [v, i64 i] h (RetP fun v' h' => FreshSl h h' v' 3 1 ((l.take i ++ l.drop (i + 1)).map i64) (l.take i ++ l.drop (i + 1)).length /\ Ext h h') := by
  refine Sv_wf fun hw => ?_
  refine Sv_enter Tryz.func108 rfl (by rw [Tryz.ntmps108]; rfl) ?_; show Wc Tryz.prog ⟨108, 15, none⟩ _ _ _ _ _
  refine zz ?_
  have hE1 := Ext.add hw (.cells [] 3 false)
  have hF1 := hF.ext hE1
  obtain ⟨s1, hz1, hA1⟩ := A_freshTo (P := Tryz.prog) (t := 31) (tX := 31) (dd := .slice 3) (ki := .i64) (k := i) hF1 (by omega) Und.h Tsz.h Und.h (by intro k; simp) (by omega)
  obtain ⟨s2, hz2, hA2⟩ := A_freshFrom (P := Tryz.prog) (t := 31) (tX := 31) (dd := .slice 3) (ki := .i64) (k := i + 1) hF1 (by omega) Und.h Tsz.h Und.h (by intro k; simp) (by omega)
  have hl1 : ((l.map i64).take i).length = i * 1 := by rw [List.length_take, List.length_map]; omega
  have ho1 : allOne ((l.map i64).take i) = true := by rw [<- List.map_take]; exact allOne_i64 _
  refine zz ?_
  refine Wc_draw hmix [0, 0, 0, 6, 15, 0, 0, 64, 224, 511, 1023] [0, 1, 2, 3, 5, 6, 7, 8] (some 4) [([], (some 9)), ([], (some 10)), ([], none)] (by kernel_rfl) (by kernel_rfl) ?_
  refine Wp_new (nk := .sl _ _) rfl rfl rfl rfl rfl (fun _ _ hs => N_bs hs Und.h Tsz.h Zr.h rfl rfl rfl rfl rfl) ?_
  refine z_m ?_; refine z_m ?_; refine Wp_pure rfl rfl rfl rfl rfl (fun _ => hA1 rfl rfl) ?_; refine z_m ?_; refine z_m ?_; refine z_y ?_; refine Wp_pure rfl rfl rfl rfl rfl (fun _ => hA2 rfl rfl) ?_
  refine Wp_eff (h1 := (Heap.add h _)) [0, 1, 2, 3] (by kernel_rfl) rfl (Stl_nil rfl) rfl rfl rfl (W1_appendF (by' := 8) (k := i) (n := 0) (l := (l.map i64).take i) rfl hw (hw.add _) hE1 rfl rfl rfl rfl Und.h inferInstance rfl rfl (FreshSl.lit (n := 0) (sz := 1) (cs := []) Heap.get_add_same rfl (Nat.le_refl _)) (hz1 _ _ hF1) hl1 ho1 (by omega) (by omega) (fun v5 h5 hF5 hE5 hK5 hx5 hv5 => ?_))
  have hF5v := hF.ext hE5
  have hl2 : ((l.map i64).drop (i + 1)).length = (l.length - (i + 1)) * 1 := by rw [List.length_drop, List.length_map]; omega
  have ho2 : allOne ((l.map i64).drop (i + 1)) = true := by rw [<- List.map_drop]; exact allOne_i64 _
  refine Wp_eff (h1 := h5) [0, 1, 2, 3, 4, 5, 6, 7, 8] (by kernel_rfl) rfl (by refine Stl_pure (i := 8) rfl rfl rfl rfl rfl (fun _ => hA2 rfl rfl) rfl ?_; refine t_y 7 ?_; refine t_m 6 ?_; refine t_m 5 ?_; exact Stl_nil rfl) rfl rfl rfl (W1_wf fun hw5 => W1_appendF (by' := 8) (k := l.length - (i + 1)) (n := 0 + i) (l := (l.map i64).drop (i + 1)) rfl hw hw5 hE5 rfl rfl rfl rfl Und.h inferInstance rfl rfl hF5 (hz2 _ _ hF5v) hl2 ho2 (by omega) (by omega) (fun v6 h6 hF6 hE6 hK6 hx6 hv6 => ?_))
  refine Wp_eff (h1 := h6) [0, 1, 2, 3, 4, 5, 6, 7, 8, 9] (by kernel_rfl) rfl (Stl_nil rfl) rfl rfl rfl (W1_op rfl rfl (A_assign rfl) ?_)
  refine Wp_end (Stl_nil rfl) rfl ?_
  refine zz ?_
  refine Wc_ret (Lv_ret rfl ⟨?_, hE6⟩)
  rw [List.map_append, List.map_take, List.map_drop, List.length_append, List.length_take, List.length_drop, show min i l.length + (l.length - (i + 1)) = 0 + i + (l.length - (i + 1)) by omega]
  exact hF6
theorem FreshSl.upd {h0 h h' : Heap} {b o n : Nat} {sp : Option Nat} {el : TypeId} {cs cs' : List Value} {op : Bool} (hF : FreshSl h0 h (.slice (some ⟨b, o, sp⟩) n n) el 1 cs n) (hU : Upd h b (.cells cs' el op) h') (hl : cs'.length = cs.length) : FreshSl h0 h' (.slice (some ⟨b, o, sp⟩) n n) el 1 cs' n := by
  rcases hF with ⟨e, _⟩ | ⟨b', sp', op', e, h2, h3, h4, h5⟩
  · cases e
  · cases e; exact .inr ⟨b, sp, op, rfl, hU.at', by omega, h4, h5⟩
def Sorted (l : List Int) : Prop := l.Pairwise (· <= ·)
theorem sorted_ins {A B : List Int} {x : Int} (h : Sorted (A ++ B)) (ha : ∀ a ∈ A, a <= x) (hb : ∀ b ∈ B, x <= b) : Sorted (A ++ x :: B) := by
  unfold Sorted at *
  rw [List.pairwise_append] at h ⊢
  obtain ⟨h1, h2, h3⟩ := h
  refine ⟨h1, List.pairwise_cons.2 ⟨hb, h2⟩, fun a hA c hc => ?_⟩
  rcases List.mem_cons.1 hc with e | g
  · rw [e]; exact ha a hA
  · exact h3 a hA c g
set_option maxHeartbeats 4000000 in
theorem refSorted_sv {l : List Int} {h : Heap} {a : Option Addr} {cap : Nat} (hI : IntsAt h a l) (hlen : l.length < 1000000) :
    Sv Tryz.prog 109 [.slice a l.length cap] h (RetP fun v h' => ∃ s : List Int, FreshSl h h' v 3 1 (s.map i64) s.length /\ s.Perm l /\ Sorted s /\ Ext h h') := by
  refine Sv_wf fun hw => ?_
  refine Sv_enter Tryz.func109 rfl (by rw [Tryz.ntmps109]; rfl) ?_; show Wc Tryz.prog ⟨109, 53, none⟩ _ _ _ _ _
  refine zz ?_
  refine Wc_loop (fun (i : Nat) m ds h' => ds = [] /\ i <= l.length /\ Ext h h' /\ ∃ (v : Value) (s : List Int), FreshSl h h' v 3 1 (s.map i64) s.length /\ s.Perm (l.take i) /\ Sorted s /\ AllK m [(0, .slice a l.length cap), (3, v), (4, i64 i)])
    (fun i => l.length - i) 0 ?_ ?_
  · exact ⟨rfl, Nat.zero_le _, Ext.refl _, _, [], FreshSl.nil _ _ _ _, List.Perm.refl _, List.Pairwise.nil, rfl, rfl, rfl, trivial⟩
  rintro i m ds h1 ⟨rfl, hi, hE, v, s, hF, hp, hs, hall⟩
  refine Wc.le ?_ (Le.kn hall)
  refine zz ?_
  refine Wo_dec rfl rfl rfl rfl (A_lss rfl rfl) (fun hip => ?_) (fun hip => ?_)
  rotate_left
  · have : i = l.length := by omega
    subst this
    rw [List.take_length] at hp
    refine zz ?_
    exact Wc_ret (Lv_ret rfl ⟨s, hF, hp, hs, hE⟩)
  have hi' : i < l.length := by omega
  obtain ⟨b, o, oa, rfl, hc⟩ := (hI.ext hE) i hi'
  have hsl : s.length = i := by rw [hp.length_eq, List.length_take]; omega
  refine zz ?_
  refine Wo_do rfl rfl rfl rfl (A_ix Und.h Tsz.h rfl rfl) ?_
  refine zz ?_
  refine Wo_bs rfl rfl Und.h Tsz.h Zr.h rfl rfl rfl rfl rfl fun h2 hE2 hW2 hg2 hx2 => ?_
  refine zz ?_
  refine Wo_appendF (by' := 8) (k := 1) (n := s.length) (l := [i64 l[i]]) hw (hE.trans hE2) rfl rfl rfl rfl rfl Und.h inferInstance rfl rfl (hF.ext hE2) ((FreshSl.lit (h0 := h) (n := 1) (sz := 1) (cs := [i64 l[i]]) hg2 rfl hE.2.1).src (dd := .slice 3) Und.h (by intro k; simp)) rfl rfl (by omega) (by omega) fun v3 h3 hF3 hE3 hK3 hx3 hv3 => ?_
  refine zz ?_
  have hF4 : FreshSl h h3 v3 3 1 ((s ++ l[i] :: []).map i64) (i + 1) := by rw [List.map_append, show i + 1 = s.length + 1 by omega]; exact hF3
  refine Wc_loop (fun (x : List Int × List Int) m ds h' => ds = [] /\ Ext h h' /\ x.1 ++ x.2 = s /\ (∀ y ∈ x.2, l[i] < y) /\ FreshSl h h' v3 3 1 ((x.1 ++ l[i] :: x.2).map i64) (i + 1) /\ AllK m [(0, .slice (some ⟨b, o, oa⟩) l.length cap), (3, v3), (4, i64 i), (5, i64 x.1.length)])
    (fun x => x.1.length) (s, []) ?_ ?_
  · refine ⟨rfl, hE3, by simp, (fun _ h => nomatch h), hF4, rfl, rfl, rfl, ?_, trivial⟩
    show _ = some (i64 s.length)
    rw [hsl]; rfl
  clear hF4 hF3 hK3 hx3 hv3 hE3 hE2 hW2 hg2 hx2 hF hc hE hall
  clear h3 h2 h1
  rintro ⟨A, B⟩ m ds h1 ⟨rfl, hE, hAB, hB, hF, hall⟩
  simp only at hAB hB hF hall
  have hAl : A.length + B.length = i := by rw [<- hsl, <- hAB, List.length_append]
  have hdone : (∀ y ∈ A, y <= l[i]) -> (A ++ l[i] :: B).Perm (l.take (i + 1)) /\ Sorted (A ++ l[i] :: B) := fun hA => by
    refine ⟨?_, sorted_ins (by rw [hAB]; exact hs) hA (fun y hy => Int.le_of_lt (hB y hy))⟩
    rw [take_succ hi']
    refine List.perm_middle.trans ((List.Perm.cons _ (show (A ++ B).Perm (l.take i) by rw [hAB]; exact hp)).trans ?_)
    exact (List.perm_append_comm (l₁ := [l[i]]))
  rcases List.eq_nil_or_concat A with rfl | ⟨A', y, hA'⟩
  · refine Wc.le ?_ (Le.kn hall)
    refine zz ?_
    refine Wc_draw hmix [0, 1, 3, 7, 7, 31, 63, 7, 7, 263, 903, 1927, 4095, 8191] [0, 1, 2, 3, 4, 5, 6, 7, 8, 9, 10, 11, 12, 13] none [] (by kernel_rfl) (by kernel_rfl) ?_
    refine z_m ?_; refine Wp_pure rfl rfl rfl rfl rfl (fun _ => A_ff (by simp) (A_gtr rfl rfl)) ?_; refine z_m ?_; refine g_m ?_; refine g_m ?_; refine g_i ?_; refine g_l ?_; refine g_m ?_; refine g_m ?_; refine g_u ?_; refine g_i ?_; refine g_l ?_; refine z_o ?_; refine z_p ?_
    refine Wp_end (Stl_nil rfl) nb' ?_
    refine zz ?_
    obtain ⟨d1, d2⟩ := hdone (fun _ h => nomatch h)
    refine ⟨i + 1, ?_, rfl, hi', hE, v3, l[i] :: B, (show FreshSl h h1 v3 3 1 ((l[i] :: B).map i64) (l[i] :: B).length by rw [show (l[i] :: B).length = i + 1 by simp at hAl ⊢; omega]; exact hF), d1, d2, rfl, rfl, rfl, trivial⟩
    show l.length - (i + 1) < l.length - i; omega
  rw [List.concat_eq_append] at hA'
  subst hA'
  have hj : (A' ++ [y]).length = A'.length + 1 := by simp
  rw [hj] at hAl hall
  refine Wc.le ?_ (Le.kn hall)
  rcases hF with ⟨_, e0, _⟩ | ⟨bv, sp, op, rfl, hg, hgl, hgn, hsp⟩
  · simp at e0
  have hcx : cellAt h1 bv (0 + (A'.length + 1) * 1) = some (i64 l[i]) := cellAt_cells hg (by rw [nth_eq]; simp)
  have hcy : cellAt h1 bv (0 + A'.length * 1) = some (i64 y) := cellAt_cells hg (by rw [nth_eq]; simp)
  by_cases c : l[i] < y
  rotate_left
  · refine zz ?_
    refine Wc_draw hmix [0, 1, 3, 7, 7, 31, 63, 7, 7, 263, 903, 1927, 4095, 8191] [0, 1, 2, 3, 4, 5, 6, 7, 8, 9, 10, 11, 12, 13] none [] (by kernel_rfl) (by kernel_rfl) ?_
    refine z_m ?_; refine Wp_pure rfl rfl rfl rfl rfl (fun _ => A_tt (by omega) (A_gtr rfl rfl)) ?_; refine z_m ?_; refine g_m ?_; refine g_m ?_
    first | refine Wp_off rfl rfl rfl rfl ?_ | refine Wp_pure rfl rfl rfl rfl rfl (fun _ => A_indexAddr (k := A'.length + 1) (z := ((A'.length + 1 : Nat) : Int)) Und.h Tsz.h rfl rfl rfl (by omega)) ?_
    refine g_l ?_; refine g_m ?_; refine g_m ?_; refine g_u ?_
    first | refine Wp_off rfl rfl rfl rfl ?_ | refine Wp_pure rfl rfl rfl rfl rfl (fun _ => A_indexAddr (k := A'.length) (z := ((A'.length + 1 : Nat) : Int) - 1) Und.h Tsz.h rfl rfl (by omega) (by omega)) ?_
    refine g_l ?_
    first | refine Wp_off rfl rfl rfl rfl ?_ | refine Wp_pure rfl rfl rfl rfl rfl (fun _ => A_ff c (A_lss rfl rfl)) ?_
    refine z_p ?_
    refine Wp_end (Stl_nil rfl) nb' ?_
    refine zz ?_
    have hAs : Sorted (A' ++ [y]) := by
      rw [<- hAB] at hs
      exact (List.pairwise_append.1 hs).1
    obtain ⟨d1, d2⟩ := hdone (fun z hz => by
      rcases List.mem_append.1 hz with g | g
      · have := (List.pairwise_append.1 hAs).2.2 z g y (by simp); omega
      · rw [List.mem_singleton.1 g]; omega)
    refine ⟨i + 1, ?_, rfl, hi', hE, _, (A' ++ [y]) ++ l[i] :: B, .inr ⟨bv, sp, op, ?_, hg, ?_, hgn, hsp⟩, d1, d2, rfl, rfl, rfl, trivial⟩
    · show l.length - (i + 1) < l.length - i; omega
    · rw [show ((A' ++ [y]) ++ l[i] :: B).length = i + 1 by simp; omega]
    · simp
  refine zz ?_
  refine Wc_draw hmix [0, 1, 3, 7, 7, 31, 63, 7, 7, 263, 903, 1927, 4095, 8191] [0, 1, 2, 3, 4, 5, 6, 7, 8, 9, 10, 11, 12, 13] none [] (by kernel_rfl) (by kernel_rfl) ?_
  refine z_m ?_; refine Wp_pure rfl rfl rfl rfl rfl (fun _ => A_tt (by omega) (A_gtr rfl rfl)) ?_; refine z_m ?_; refine g_m ?_; refine g_m ?_
  first | refine Wp_off rfl rfl rfl rfl ?_ | refine Wp_pure rfl rfl rfl rfl rfl (fun _ => A_indexAddr (k := A'.length + 1) (z := ((A'.length + 1 : Nat) : Int)) Und.h Tsz.h rfl rfl rfl (by omega)) ?_
  refine g_l ?_; refine g_m ?_; refine g_m ?_; refine g_u ?_
  first | refine Wp_off rfl rfl rfl rfl ?_ | refine Wp_pure rfl rfl rfl rfl rfl (fun _ => A_indexAddr (k := A'.length) (z := ((A'.length + 1 : Nat) : Int) - 1) Und.h Tsz.h rfl rfl (by omega) (by omega)) ?_
  refine g_l ?_
  first | refine Wp_off rfl rfl rfl rfl ?_ | refine Wp_pure rfl rfl rfl rfl rfl (fun _ => A_tt c (A_lss rfl rfl)) ?_
  refine z_p ?_
  refine Wp_end (Stl_nil rfl) nb' ?_
  refine zz ?_
  refine Wc_draw hmix [0, 0, 0, 0, 8, 0, 0, 64, 224, 480, 0, 0, 3072, 7168, 16355, 32739, 65535, 131071] [0, 1, 2, 3, 4, 5, 6, 7, 8, 9, 10, 11, 12, 13, 14] (some 15) [([16], (some 17)), ([], none)] (by kernel_rfl) (by kernel_rfl) ?_
  refine z_m ?_; refine z_m ?_; refine z_m ?_; refine z_m ?_; refine z_u ?_; refine z_m ?_; refine z_m ?_; refine z_u ?_; refine Wp_pure rfl rfl rfl rfl rfl (fun _ => A_indexAddr (k := A'.length) (z := ((A'.length + 1 : Nat) : Int) - 1) Und.h Tsz.h rfl rfl (by omega) (by omega)) ?_; refine z_l ?_; refine z_m ?_; refine z_m ?_; refine Wp_pure rfl rfl rfl rfl rfl (fun _ => A_indexAddr (k := A'.length + 1) (z := ((A'.length + 1 : Nat) : Int)) Und.h Tsz.h rfl rfl rfl (by omega)) ?_; refine z_l ?_; refine Wp_pure rfl rfl rfl rfl rfl (fun _ => A_indexAddr (k := A'.length + 1) (z := ((A'.length + 1 : Nat) : Int)) Und.h Tsz.h rfl rfl rfl (by omega)) ?_
  refine Wp_eff [0, 1, 5, 6, 7, 8, 9, 10, 11, 12, 13, 14] (by kernel_rfl) rfl (Stl_nil rfl) rfl nb rfl (W1_store rfl rfl Tsz.h rfl rfl hg rfl rfl (lay_one (by simp)) (fun h2 hU2 => ?_))
  refine Wp_pure rfl rfl rfl rfl rfl (fun _ => A_indexAddr (k := A'.length) (z := ((A'.length + 1 : Nat) : Int) - 1) Und.h Tsz.h rfl rfl (by omega) (by omega)) ?_
  refine Wp_eff [0, 1, 2, 3, 4, 5, 6, 7, 8, 9, 10, 11, 12, 13, 14, 15, 16] (by kernel_rfl) rfl (by refine t_u 4 ?_; refine t_m 3 ?_; refine t_m 2 ?_; exact Stl_nil rfl) rfl nb rfl (W1_store rfl rfl Tsz.h rfl rfl hU2.at' rfl rfl (lay_one (by simp)) (fun h3 hU3 => ?_))
  refine Wp_end (Stl_nil rfl) nb' ?_
  refine zz ?_
  refine ⟨(A', y :: B), ?_, rfl, hU3.ext (hU2.ext hE hw hgn) hw hgn, ?_, fun z hz => ?_, .inr ⟨bv, sp, op, rfl, ?_, ?_, hgn, hsp⟩, rfl, rfl, rfl, ?_, trivial⟩
  · show A'.length < (A' ++ [y]).length; simp
  · rw [<- hAB]; simp
  · rcases List.mem_cons.1 hz with e | g
    · rw [e]; exact c
    · exact hB z g
  · rw [hU3.at']
    congr 2
    simp only [List.map_append, List.map_cons, List.map_nil]
    rw [show (A'.map i64 ++ [i64 y] ++ i64 l[i] :: B.map i64) = A'.map i64 ++ i64 y :: i64 l[i] :: B.map i64 by simp]
    rw [List.set_append_right _ _ (by simp), List.set_append_right _ _ (by simp)]
    simp
  · simp; omega
  · show some (Value.int .i64 (((A'.length + 1 : Nat) : Int) - 1)) = some (i64 (A'.length : Nat))
    congr 2
    omega
end Go.Dw
/- W2: the contract of the reference's order: reels by risk. -/
namespace Go.Dw
open Go Go.Dx Go.Proofs
set_option maxRecDepth 100000
def riskN (t : Task) (r : Nat) : Int := (reelAt t (r : Nat)).risk
def ByRisk (t : Task) (s : List Nat) : Prop := s.Pairwise fun a b => riskN t b < riskN t a \/ (riskN t a = riskN t b /\ a < b)
theorem byRisk_ins {t : Task} {A B : List Nat} {x : Nat} (h : ByRisk t (A ++ B)) (ha : ∀ a ∈ A, riskN t x <= riskN t a /\ a < x) (hb : ∀ b ∈ B, riskN t b < riskN t x) : ByRisk t (A ++ x :: B) := by
  unfold ByRisk at *
  rw [List.pairwise_append] at h ⊢
  obtain ⟨h1, h2, h3⟩ := h
  refine ⟨h1, List.pairwise_cons.2 ⟨fun b hB => .inl (hb b hB), h2⟩, fun a hA c hc => ?_⟩
  rcases List.mem_cons.1 hc with e | g
  · rw [e]
    obtain ⟨g1, g2⟩ := ha a hA
    rcases Int.lt_or_eq_of_le g1 with g | g
    · exact .inl g
    · exact .inr ⟨g.symm, g2⟩
  · exact h3 a hA c g
set_option maxHeartbeats 4000000 in
theorem refOrder_sv {tc : List Value} {t : Task} {h : Heap} (ht : TaskAt h tc t) (hf : t.Fit) (hV : Valid t) :
    Sv Tryz.prog 107 [.agg ⟨tc⟩] h (RetP fun v h' => ∃ s : List Nat, FreshSl h h' v 3 1 (s.map fun (r : Nat) => i64 r) s.length /\ s.Perm (List.range t.reels.length) /\ ByRisk t s /\ Ext h h') := by
  obtain ⟨am, cm, ar, cr, rfl, hM, hR⟩ := ht
  have hr1 := hV.r1
  have hrs := hf.rs
  refine Sv_wf fun hw => ?_
  refine Sv_enter Tryz.func107 rfl (by rw [Tryz.ntmps107]; rfl) ?_; show Wc Tryz.prog ⟨107, 61, none⟩ _ _ _ _ _
  refine zz ?_
  refine Wo_box rfl rfl rfl fun h1 hE1 hW1 hg1 hn1 => ?_
  refine zz ?_
  refine Wc_loop (fun (i : Nat) m ds h' => ds = [] /\ i <= t.reels.length /\ Ext h h' /\ h'.get h.nx = some (.cells [i64 t.first, i64 t.days, .slice am t.machines.length cm, .slice ar t.reels.length cr] 25 false) /\ ∃ (v : Value) (s : List Nat), FreshSl h h' v 3 1 (s.map fun (r : Nat) => i64 r) s.length /\ s.Perm (List.range i) /\ ByRisk t s /\ AllK m [(1, ptr h.nx), (3, v), (4, i64 i)])
    (fun i => t.reels.length - i) 0 ?_ ?_
  · exact ⟨rfl, Nat.zero_le _, hE1, hg1, _, [], FreshSl.nil _ _ _ _, List.Perm.refl _, List.Pairwise.nil, rfl, rfl, rfl, trivial⟩
  clear hE1 hW1 hg1 hn1
  clear h1
  rintro i m ds h1 ⟨rfl, hi, hE, hg1, v, s, hF, hp, hs, hall⟩
  refine Wc.le ?_ (Le.kn hall)
  refine zz ?_
  refine Wo_dec rfl rfl rfl rfl (A_lss rfl rfl) (fun hip => ?_) (fun hip => ?_)
  rotate_left
  · have : i = t.reels.length := by omega
    subst this
    refine zz ?_
    exact Wc_ret (Lv_ret rfl ⟨s, hF, hp, hs, hE⟩)
  have hi' : i < t.reels.length := by omega
  obtain ⟨bR, oR, oaR, _, _, rfl, _, _, _⟩ := reelRow hR hi'
  have hsl : s.length = i := by rw [hp.length_eq, List.length_range]
  have hsm : ∀ y ∈ s, y < i := fun y hy => List.mem_range.1 (hp.subset hy)
  refine zz ?_
  refine Wo_bs rfl rfl Und.h Tsz.h Zr.h rfl rfl rfl rfl rfl fun h2 hE2 hW2 hg2 hx2 => ?_
  refine zz ?_
  refine Wo_appendF (by' := 8) (k := 1) (n := s.length) (l := [i64 (i : Nat)]) hw (hE.trans hE2) rfl rfl rfl rfl rfl Und.h inferInstance rfl rfl (hF.ext hE2) ((FreshSl.lit (h0 := h) (n := 1) (sz := 1) (cs := [i64 (i : Nat)]) hg2 rfl hE.2.1).src (dd := .slice 3) Und.h (by intro k; simp)) rfl rfl (by omega) (by omega) fun v3 h3 hF3 hE3 hK3 hx3 hv3 => ?_
  have hg3 := hK3 _ _ (fun e => by
    obtain ⟨⟨op0, h7⟩, _⟩ := hF.at3' e
    exact absurd (cells_el h7 hg1) (by decide)) (hE2.get hg1)
  refine zz ?_
  have hF4 : FreshSl h h3 v3 3 1 ((s ++ i :: []).map fun (r : Nat) => i64 r) (i + 1) := by rw [List.map_append, show i + 1 = s.length + 1 by omega]; exact hF3
  refine Wc_loop (fun (x : List Nat × List Nat) m ds h' => ds = [] /\ Ext h h' /\ h'.get h.nx = some (.cells [i64 t.first, i64 t.days, .slice am t.machines.length cm, .slice (some ⟨bR, oR, oaR⟩) t.reels.length cr] 25 false) /\ x.1 ++ x.2 = s /\ (∀ y ∈ x.2, riskN t y < riskN t i) /\ FreshSl h h' v3 3 1 ((x.1 ++ i :: x.2).map fun (r : Nat) => i64 r) (i + 1) /\ AllK m [(1, ptr h.nx), (3, v3), (4, i64 i), (5, i64 x.1.length)])
    (fun x => x.1.length) (s, []) ?_ ?_
  · refine ⟨rfl, hE3, hg3, by simp, (fun _ h => nomatch h), hF4, rfl, rfl, rfl, ?_, trivial⟩
    show _ = some (i64 s.length)
    rw [hsl]; rfl
  clear hF4 hF3 hK3 hx3 hv3 hE3 hE2 hW2 hg2 hx2 hF hE hall hg1 hg3
  clear h3 h2 h1
  rintro ⟨A, B⟩ m ds h1 ⟨rfl, hE, hg1, hAB, hB, hF, hall⟩
  simp only at hAB hB hF hall
  have hAl : A.length + B.length = i := by rw [<- hsl, <- hAB, List.length_append]
  have hdone : (∀ y ∈ A, riskN t i <= riskN t y) -> (A ++ i :: B).Perm (List.range (i + 1)) /\ ByRisk t (A ++ i :: B) := fun hA => by
    refine ⟨?_, byRisk_ins (by rw [hAB]; exact hs) (fun a ha => ⟨hA a ha, hsm a (by rw [<- hAB]; exact List.mem_append_left _ ha)⟩) hB⟩
    rw [List.range_succ]
    refine List.perm_middle.trans ((List.Perm.cons _ (show (A ++ B).Perm (List.range i) by rw [hAB]; exact hp)).trans ?_)
    exact (List.perm_append_comm (l₁ := [i]))
  rcases List.eq_nil_or_concat A with rfl | ⟨A', y, hA'⟩
  · refine Wc.le ?_ (Le.kn hall)
    refine zz ?_
    refine Wc_draw hmix [0, 1, 3, 7, 15, 7, 7, 103, 231, 511, 1023, 2047, 7, 4103, 7, 7, 32775, 114695, 245767, 520199, 1044487, 2093063, 4194303, 8388607] [0, 1, 2, 3, 4, 5, 6, 7, 8, 9, 10, 11, 12, 13, 14, 15, 16, 17, 18, 19, 20, 21, 22, 23] none [] (by kernel_rfl) (by kernel_rfl) ?_
    refine z_m ?_; refine Wp_pure rfl rfl rfl rfl rfl (fun _ => A_ff (by simp) (A_gtr rfl rfl)) ?_; refine z_m ?_; refine g_f ?_; refine g_l ?_; refine g_m ?_; refine g_m ?_; refine g_i ?_; refine g_l ?_; refine g_i ?_; refine g_f ?_; refine g_l ?_; refine g_f ?_; refine g_l ?_; refine g_m ?_; refine g_m ?_; refine g_u ?_; refine g_i ?_; refine g_l ?_; refine g_i ?_; refine g_f ?_; refine g_l ?_; refine z_o ?_; refine z_p ?_
    refine Wp_end (Stl_nil rfl) nb' ?_
    refine zz ?_
    obtain ⟨d1, d2⟩ := hdone (fun _ h => nomatch h)
    refine ⟨i + 1, ?_, rfl, hi', hE, hg1, v3, i :: B, (show FreshSl h h1 v3 3 1 ((i :: B).map fun (r : Nat) => i64 r) (i :: B).length by rw [show (i :: B).length = i + 1 by simp at hAl ⊢; omega]; exact hF), d1, d2, rfl, rfl, rfl, trivial⟩
    show t.reels.length - (i + 1) < t.reels.length - i; omega
  rw [List.concat_eq_append] at hA'
  subst hA'
  have hj : (A' ++ [y]).length = A'.length + 1 := by simp
  rw [hj] at hAl hall
  refine Wc.le ?_ (Le.kn hall)
  have hyi : y < t.reels.length := by have := hsm y (by rw [<- hAB]; simp); omega
  obtain ⟨bR2, oR2, oaR2, _, _, eR, _, _, hrx⟩ := reelRow hR hi'
  cases eR
  obtain ⟨bR2, oR2, oaR2, _, _, eR, _, _, hry⟩ := reelRow hR hyi
  cases eR
  replace hrx := hE.cell hrx
  replace hry := hE.cell hry
  rcases hF with ⟨_, e0, _⟩ | ⟨bv, sp, op, rfl, hg, hgl, hgn, hsp⟩
  · simp at e0
  have hcx : cellAt h1 bv (0 + (A'.length + 1) * 1) = some (i64 (i : Nat)) := cellAt_cells hg (by rw [nth_eq]; simp)
  have hcy : cellAt h1 bv (0 + A'.length * 1) = some (i64 (y : Nat)) := cellAt_cells hg (by rw [nth_eq]; simp)
  by_cases c : (reelAt t (y : Nat)).risk < (reelAt t (i : Nat)).risk
  rotate_left
  · refine zz ?_
    refine Wc_draw hmix [0, 1, 3, 7, 15, 7, 7, 103, 231, 511, 1023, 2047, 7, 4103, 7, 7, 32775, 114695, 245767, 520199, 1044487, 2093063, 4194303, 8388607] [0, 1, 2, 3, 4, 5, 6, 7, 8, 9, 10, 11, 12, 13, 14, 15, 16, 17, 18, 19, 20, 21, 22, 23] none [] (by kernel_rfl) (by kernel_rfl) ?_
    refine z_m ?_; refine Wp_pure rfl rfl rfl rfl rfl (fun _ => A_tt (by omega) (A_gtr rfl rfl)) ?_; refine z_m ?_; refine g_f ?_; refine g_l ?_; refine g_m ?_; refine g_m ?_
    first | refine Wp_off rfl rfl rfl rfl ?_ | refine Wp_pure rfl rfl rfl rfl rfl (fun _ => A_indexAddr (k := A'.length + 1) (z := ((A'.length + 1 : Nat) : Int)) Und.h Tsz.h rfl rfl rfl (by omega)) ?_
    refine g_l ?_; refine g_i ?_; refine g_f ?_; refine g_l ?_; refine g_f ?_; refine g_l ?_; refine g_m ?_; refine g_m ?_; refine g_u ?_
    first | refine Wp_off rfl rfl rfl rfl ?_ | refine Wp_pure rfl rfl rfl rfl rfl (fun _ => A_indexAddr (k := A'.length) (z := ((A'.length + 1 : Nat) : Int) - 1) Und.h Tsz.h rfl rfl (by omega) (by omega)) ?_
    refine g_l ?_; refine g_i ?_; refine g_f ?_; refine g_l ?_
    first | refine Wp_off rfl rfl rfl rfl ?_ | refine Wp_pure rfl rfl rfl rfl rfl (fun _ => A_ff c (A_gtr rfl rfl)) ?_
    refine z_p ?_
    refine Wp_end (Stl_nil rfl) nb' ?_
    refine zz ?_
    have hAs : ByRisk t (A' ++ [y]) := by
      rw [<- hAB] at hs
      exact (List.pairwise_append.1 hs).1
    obtain ⟨d1, d2⟩ := hdone (fun z hz => by
      have c' : riskN t i <= riskN t y := Int.not_lt.1 c
      rcases List.mem_append.1 hz with g | g
      · have := (List.pairwise_append.1 hAs).2.2 z g y (by simp); omega
      · rw [List.mem_singleton.1 g]; exact c')
    refine ⟨i + 1, ?_, rfl, hi', hE, hg1, _, (A' ++ [y]) ++ i :: B, .inr ⟨bv, sp, op, ?_, hg, ?_, hgn, hsp⟩, d1, d2, rfl, rfl, rfl, trivial⟩
    · show t.reels.length - (i + 1) < t.reels.length - i; omega
    · rw [show ((A' ++ [y]) ++ i :: B).length = i + 1 by simp; omega]
    · simp
  refine zz ?_
  refine Wc_draw hmix [0, 1, 3, 7, 15, 7, 7, 103, 231, 511, 1023, 2047, 7, 4103, 7, 7, 32775, 114695, 245767, 520199, 1044487, 2093063, 4194303, 8388607] [0, 1, 2, 3, 4, 5, 6, 7, 8, 9, 10, 11, 12, 13, 14, 15, 16, 17, 18, 19, 20, 21, 22, 23] none [] (by kernel_rfl) (by kernel_rfl) ?_
  refine z_m ?_; refine Wp_pure rfl rfl rfl rfl rfl (fun _ => A_tt (by omega) (A_gtr rfl rfl)) ?_; refine z_m ?_; refine g_f ?_; refine g_l ?_; refine g_m ?_; refine g_m ?_
  first | refine Wp_off rfl rfl rfl rfl ?_ | refine Wp_pure rfl rfl rfl rfl rfl (fun _ => A_indexAddr (k := A'.length + 1) (z := ((A'.length + 1 : Nat) : Int)) Und.h Tsz.h rfl rfl rfl (by omega)) ?_
  refine g_l ?_; refine g_i ?_; refine g_f ?_; refine g_l ?_; refine g_f ?_; refine g_l ?_; refine g_m ?_; refine g_m ?_; refine g_u ?_
  first | refine Wp_off rfl rfl rfl rfl ?_ | refine Wp_pure rfl rfl rfl rfl rfl (fun _ => A_indexAddr (k := A'.length) (z := ((A'.length + 1 : Nat) : Int) - 1) Und.h Tsz.h rfl rfl (by omega) (by omega)) ?_
  refine g_l ?_; refine g_i ?_; refine g_f ?_; refine g_l ?_
  first | refine Wp_off rfl rfl rfl rfl ?_ | refine Wp_pure rfl rfl rfl rfl rfl (fun _ => A_tt c (A_gtr rfl rfl)) ?_
  refine z_p ?_
  refine Wp_end (Stl_nil rfl) nb' ?_
  refine zz ?_
  refine Wc_draw hmix [0, 0, 0, 0, 8, 0, 0, 64, 224, 480, 0, 0, 3072, 7168, 16355, 32739, 65535, 131071] [0, 1, 2, 3, 4, 5, 6, 7, 8, 9, 10, 11, 12, 13, 14] (some 15) [([16], (some 17)), ([], none)] (by kernel_rfl) (by kernel_rfl) ?_
  refine z_m ?_; refine z_m ?_; refine z_m ?_; refine z_m ?_; refine z_u ?_; refine z_m ?_; refine z_m ?_; refine z_u ?_; refine Wp_pure rfl rfl rfl rfl rfl (fun _ => A_indexAddr (k := A'.length) (z := ((A'.length + 1 : Nat) : Int) - 1) Und.h Tsz.h rfl rfl (by omega) (by omega)) ?_; refine z_l ?_; refine z_m ?_; refine z_m ?_; refine Wp_pure rfl rfl rfl rfl rfl (fun _ => A_indexAddr (k := A'.length + 1) (z := ((A'.length + 1 : Nat) : Int)) Und.h Tsz.h rfl rfl rfl (by omega)) ?_; refine z_l ?_; refine Wp_pure rfl rfl rfl rfl rfl (fun _ => A_indexAddr (k := A'.length + 1) (z := ((A'.length + 1 : Nat) : Int)) Und.h Tsz.h rfl rfl rfl (by omega)) ?_
  refine Wp_eff [0, 1, 5, 6, 7, 8, 9, 10, 11, 12, 13, 14] (by kernel_rfl) rfl (Stl_nil rfl) rfl nb rfl (W1_store rfl rfl Tsz.h rfl rfl hg rfl rfl (lay_one (by simp)) (fun h2 hU2 => ?_))
  refine Wp_pure rfl rfl rfl rfl rfl (fun _ => A_indexAddr (k := A'.length) (z := ((A'.length + 1 : Nat) : Int) - 1) Und.h Tsz.h rfl rfl (by omega) (by omega)) ?_
  refine Wp_eff [0, 1, 2, 3, 4, 5, 6, 7, 8, 9, 10, 11, 12, 13, 14, 15, 16] (by kernel_rfl) rfl (by refine t_u 4 ?_; refine t_m 3 ?_; refine t_m 2 ?_; exact Stl_nil rfl) rfl nb rfl (W1_store rfl rfl Tsz.h rfl rfl hU2.at' rfl rfl (lay_one (by simp)) (fun h3 hU3 => ?_))
  refine Wp_end (Stl_nil rfl) nb' ?_
  refine zz ?_
  have hne : h.nx ≠ bv := fun e => absurd (cells_el (e ▸ hg) hg1) (by decide)
  refine ⟨(A', y :: B), ?_, rfl, hU3.ext (hU2.ext hE hw hgn) hw hgn, hU3.get hne (hU2.get hne hg1), ?_, fun z hz => ?_, .inr ⟨bv, sp, op, rfl, ?_, ?_, hgn, hsp⟩, rfl, rfl, rfl, ?_, trivial⟩
  · show A'.length < (A' ++ [y]).length; simp
  · rw [<- hAB]; simp
  · rcases List.mem_cons.1 hz with e | g
    · rw [e]; exact c
    · exact hB z g
  · rw [hU3.at']
    congr 2
    simp only [List.map_append, List.map_cons, List.map_nil]
    rw [show ((A'.map fun (r : Nat) => i64 r) ++ [i64 (y : Nat)] ++ i64 (i : Nat) :: (B.map fun (r : Nat) => i64 r)) = (A'.map fun (r : Nat) => i64 r) ++ i64 (y : Nat) :: i64 (i : Nat) :: (B.map fun (r : Nat) => i64 r) by simp]
    rw [List.set_append_right _ _ (by simp), List.set_append_right _ _ (by simp)]
    simp
  · simp; omega
  · show some (Value.int .i64 (((A'.length + 1 : Nat) : Int) - 1)) = some (i64 (A'.length : Nat))
    congr 2
    omega
end Go.Dw
/- W3: contracts: Ints, SameTurns: lists compared. -/
namespace Go.Dw
open Go Go.Dx Go.Proofs
set_option maxRecDepth 100000
end Go.Dw
/- W4: contracts: SameTurns. -/
namespace Go.Dw
open Go Go.Dx Go.Proofs
set_option maxRecDepth 100000
noncomputable def turnK : KeyK Tryz.prog 59 (Int × Int × Int) where
  enc := fun p => .agg ⟨[i64 p.1, i64 p.2.1, i64 p.2.2]⟩
  ks := .struct [(.int .i64, 0), (.int .i64, 1), (.int .i64, 2)]
  hks := by kernel_rfl
  flat := fun _ => rfl
  ok := fun _ => rfl
  eq := placeK.eq
  same := fun a => by simp [Instr.sameBits]
end Go.Dw
/- W5: contracts: SameLate. -/
namespace Go.Dw
open Go Go.Dx Go.Proofs
set_option maxRecDepth 100000
end Go.Dw
/- W6: contracts: slices.Clone. -/
namespace Go.Dw
open Go Go.Dx Go.Proofs
set_option maxRecDepth 100000
theorem run_eq_nilSl {P : Program} {t el : TypeId} (hu : P.underlying t = some (.slice el)) (n : Nat) (w : World) : (Op.equalIn (n + 1) t (.slice none 0 0) (.slice none 0 0)).run P w = .ok true w := by
  simp only [Op.equalIn, Sem.run_bind, run_underlying hu, Result.andThen_ok, Sem.run_pure]
  rfl
section
variable {P : Program} {m : Mem} {h : Heap} {d : Option Tmp} {ty : TypeId} {pos : String} {af : Array Edge} {gu : Option (Nat × Bool)} {t tz el : TypeId} {x y : Operand}
theorem A_eqNilN (hu : P.underlying t = some (.slice el)) (hx : opk h m x = some (.slice none 0 0)) (hy : opk h m y = some (.slice none 0 0)) : Aop P ⟨d, .binOp .eql t x y tz, ty, pos, af, gu⟩ m h (.bool true) h :=
  A_bin hx hy rfl rfl rfl fun w => by
    have h2 : (eqGuard .eql t x y (.slice none 0 0) (.slice none 0 0)).run P w = .ok () w := rfl
    simp only [Sem.run_bind, h2, Result.andThen_ok]
    show (do pure (.bool (<- Op.equalIn (9999 + 1) t (.slice none 0 0) (.slice none 0 0))) : Sem Value).run P w = _
    simp only [Sem.run_bind, run_eq_nilSl hu, Result.andThen_ok, Sem.run_pure]
theorem A_eqNilS {a : Addr} {n c : Nat} (hu : P.underlying t = some (.slice el)) (hx : opk h m x = some (.slice (some a) n c)) (hy : opk h m y = some (.slice none 0 0)) : Aop P ⟨d, .binOp .eql t x y tz, ty, pos, af, gu⟩ m h (.bool false) h :=
  Aop_of fun e hs => by
    show pBin P _ h e .eql t x y = _
    unfold pBin
    simp only [opk_opv hs hx, opk_opv hs hy]
    have : abinNil P .eql t (.slice (some a) n c) (.slice none 0 0) = some (.bool false) := by
      unfold abinNil
      rw [hu]
      rfl
    simp only [this]
end
theorem clone_sv {v : Value} {l : List Int} {h0 h : Heap} (hF : FreshSl h0 h v 3 1 (l.map i64) l.length) (hlen : l.length < 1000000) :
    Sv Tryz.prog 101 [v] h (RetP fun v' h' => FreshSl h h' v' 3 1 (l.map i64) l.length /\ Ext h h') := by
  refine Sv_wf fun hw => ?_
  refine Sv_enter Tryz.func101 rfl (by rw [Tryz.ntmps101]; rfl) ?_; show Wc Tryz.prog ⟨101, 8, none⟩ _ _ _ _ _
  refine zz ?_
  obtain ⟨a, e1, _, hs⟩ := hF.srcAt
  rcases hF with ⟨e, e2, e3⟩ | ⟨b, sp, op, e, hg, hgl, hgn, hsp⟩
  · subst e
    rw [e2, e3]
    refine Wo_do rfl rfl rfl rfl (A_eqNilN Und.h rfl rfl) ?_
    refine zz ?_
    exact Wc_ret (Lv_ret rfl ⟨FreshSl.nil _ _ _ _, Ext.refl _⟩)
  · subst e
    cases e1
    refine Wo_do rfl rfl rfl rfl (A_eqNilS Und.h rfl rfl) ?_
    refine zz ?_
    refine Wo_bs rfl rfl Und.h Tsz.h Zr.h rfl rfl rfl rfl rfl fun h1 hE1 hW1 hg1 hx1 => ?_
    refine zz ?_
    refine Wo_appendF (by' := 8) (k := l.length) (n := 0) (l := l.map i64) hw hE1 rfl rfl rfl rfl rfl Und.h inferInstance rfl rfl (FreshSl.lit (n := 0) (sz := 1) (cs := []) hg1 rfl (Nat.le_refl _)) ((hs.ext hE1).src (dd := .slice 3) Und.h (by intro k; simp)) (by simp) (allOne_i64 _) (by omega) (by omega) fun v2 h2 hF2 hE2 hK2 hx2 hv2 => ?_
    refine zz ?_
    refine Wc_ret (Lv_ret rfl ⟨?_, hE2⟩)
    rw [List.nil_append, Nat.zero_add] at hF2
    exact hF2
end Go.Dw
/- W7: which reels are kept, with no program in sight: by risk, each that still fits. -/
namespace Go.Dw
open Go Go.Dx Go.Proofs Go.Mt
theorem perm_pw_eq {α : Type} {R : α -> α -> Prop} (ha : ∀ a b, R a b -> ¬ R b a) : ∀ {l s : List α}, l.Perm s -> l.Pairwise R -> s.Pairwise R -> l = s
  | [], s, hp, _, _ => (List.nil_perm.1 hp).symm
  | a :: l, [], hp, _, _ => absurd hp.symm (by intro h; exact absurd (List.nil_perm.1 h) (by simp))
  | a :: l, b :: s, hp, h1, h2 => by
    rw [List.pairwise_cons] at h1 h2
    have e : a = b := Classical.byContradiction fun hne => by
      have h3 : a ∈ s := (List.mem_cons.1 (hp.subset List.mem_cons_self)).resolve_left hne
      have h4 : b ∈ l := (List.mem_cons.1 (hp.symm.subset List.mem_cons_self)).resolve_left (fun e => hne e.symm)
      exact ha _ _ (h1.1 b h4) (h2.1 a h3)
    subst e
    rw [perm_pw_eq ha ((List.perm_cons a).1 hp) h1.2 h2.2]
theorem byRisk_eq {t : Task} {l s : List Nat} (hp : l.Perm s) (h1 : ByRisk t l) (h2 : ByRisk t s) : l = s :=
  perm_pw_eq (fun a b h g => by omega) hp h1 h2
abbrev fitN (t : Task) (s : List Nat) : Prop := Fit (adjB t fun _ => false) s
open Classical in
noncomputable def byN (t : Task) (kept : List Nat) (r : Nat) : List Nat := (List.range kept.length).flatMap fun i => if fitN t (kept.take i ++ kept.drop (i + 1) ++ [r]) then [kept.getD i 0] else []
open Classical in
noncomputable def stepN (t : Task) (x : List Nat × List (Nat × List Nat)) (r : Nat) : List Nat × List (Nat × List Nat) := if fitN t (x.1 ++ [r]) then (x.1 ++ [r], x.2) else (x.1, x.2 ++ [(r, byN t x.1 r)])
noncomputable def goN (t : Task) (s : List Nat) : List Nat × List (Nat × List Nat) := s.foldl (stepN t) ([], [])
theorem goN_snoc (t : Task) (s : List Nat) (r : Nat) : goN t (s ++ [r]) = stepN t (goN t s) r := by
  unfold goN; rw [List.foldl_append]; rfl
theorem snoc_ind {α : Type} {p : List α -> Prop} (h0 : p []) (h1 : ∀ s x, p s -> p (s ++ [x])) (s : List α) : p s := by
  have key : ∀ n (s : List α), s.length = n -> p s := by
    intro n
    induction n with
    | zero => intro s hs; rw [List.eq_nil_of_length_eq_zero hs]; exact h0
    | succ n ih =>
      intro s hs
      rcases List.eq_nil_or_concat s with rfl | ⟨s', x, e⟩
      · simp at hs
      · rw [List.concat_eq_append] at e
        subst e
        exact h1 s' x (ih s' (by simpa using hs))
  exact key _ s rfl
theorem goN_mem (t : Task) : ∀ (s : List Nat) (r : Nat), r ∈ s ↔ r ∈ (goN t s).1 \/ r ∈ (goN t s).2.map Prod.fst := by
  refine snoc_ind (fun r => by simp [goN]) (fun s x ih r => ?_)
  · rw [goN_snoc, List.mem_append, ih r]
    unfold stepN
    split
    · simp only [List.mem_append, List.mem_singleton]; exact ⟨fun h => by rcases h with (h | h) | h <;> simp [h], fun h => by rcases h with (h | h) | h <;> simp [h]⟩
    · simp only [List.map_append, List.map_cons, List.map_nil, List.mem_append, List.mem_singleton]; exact ⟨fun h => by rcases h with (h | h) | h <;> simp [h], fun h => by rcases h with h | h | h <;> simp [h]⟩
theorem goN_fit (t : Task) (s : List Nat) : fitN t (goN t s).1 := by
  refine snoc_ind (p := fun s => fitN t (goN t s).1) ⟨fun _ => (0, 0, 0), (fun _ h => nomatch h), (fun _ h => nomatch h)⟩ (fun s x ih => ?_) s
  · rw [goN_snoc]
    unfold stepN
    split
    · rename_i h; exact h
    · exact ih
theorem goN_sub (t : Task) (s : List Nat) : (goN t s).1.Sublist s := by
  refine snoc_ind (p := fun s => (goN t s).1.Sublist s) List.Sublist.slnil (fun s x ih => ?_) s
  · rw [goN_snoc]
    unfold stepN
    split
    · exact ih.append (List.Sublist.refl _)
    · exact ih.trans (List.sublist_append_left _ _)
end Go.Dw
/- W9: the turns of a plan, with no program in sight: by places that are barred, and by counts that are lowered. -/
namespace Go.Dw
open Go Go.Dx Go.Proofs Go.Mt
theorem fit_map {P Q : Type} {adj : Nat -> P -> Prop} {adj' : Nat -> Q -> Prop} {K : List Nat} (f : Q -> P) (g : P -> Q) (h : ∀ r q, adj' r q ↔ adj r (f q)) (hfg : ∀ r p, adj r p -> f (g p) = p) (hgf : ∀ q, g (f q) = q) : Fit adj' K ↔ Fit adj K := by
  constructor
  · rintro ⟨F, h1, h2⟩
    refine ⟨fun r => f (F r), fun r hr => (h r _).1 (h1 r hr), fun r hr s hs e => h2 r hr s hs ?_⟩
    rw [<- hgf (F r), <- hgf (F s)]; exact congrArg g e
  · rintro ⟨F, h1, h2⟩
    refine ⟨fun r => g (F r), fun r hr => (h r _).2 ?_, fun r hr s hs e => h2 r hr s hs ?_⟩
    · rw [hfg r _ (h1 r hr)]; exact h1 r hr
    · rw [<- hfg r _ (h1 r hr), <- hfg s _ (h1 s hs)]; exact congrArg f e
theorem fitC_mono {C : Type} [DecidableEq C] {adj adj' : Nat -> C -> Prop} {cap cap' : C -> Nat} {K : List Nat} (ha : ∀ r ∈ K, ∀ c, adj r c -> adj' r c) (hc : ∀ r ∈ K, ∀ c, adj r c -> cap c <= cap' c) (h : FitC adj cap K) : FitC adj' cap' K := by
  obtain ⟨f, h1, h2⟩ := h
  refine ⟨f, fun r hr => ha r hr _ (h1 r hr), fun c => ?_⟩
  by_cases he : ∃ r ∈ K, f r = c
  · obtain ⟨r, hr, rfl⟩ := he
    exact Nat.le_trans (h2 _) (hc r hr _ (h1 r hr))
  · have : (K.filter fun r => decide (f r = c)) = [] := List.filter_eq_nil_iff.2 fun r hr => by simpa using fun e => he ⟨r, hr, e⟩
    rw [this]; exact Nat.zero_le _
def adjM (t : Task) (r : Nat) (c : Int × Int) : Prop := c.1 ∈ (reelAt t (r : Nat)).machines /\ (reelAt t (r : Nat)).ready <= c.2 /\ c.2 <= (reelAt t (r : Nat)).due
def freeN (t : Task) (bar : Pl -> Bool) (c : Int × Int) : List Nat := (List.range (capT t c.1 c.2).toNat).filter fun n => !bar (c.1, c.2, (n : Int))
theorem freeN_nodup (t : Task) (bar : Pl -> Bool) (c : Int × Int) : (freeN t bar c).Nodup := List.nodup_range.sublist List.filter_sublist
theorem mem_freeN {t : Task} {bar : Pl -> Bool} {c : Int × Int} {n : Nat} : n ∈ freeN t bar c ↔ n < (capT t c.1 c.2).toNat /\ bar (c.1, c.2, (n : Int)) = false := by simp [freeN]
theorem fit_cells {t : Task} {bar : Pl -> Bool} {K : List Nat} (hK : K.Nodup) : Fit (adjB t bar) K ↔ FitC (adjM t) (fun c => (freeN t bar c).length) K := by
  rw [<- fit_iff (adj := fun r (q : (Int × Int) × Nat) => adjB t bar r (q.1.1, q.1.2, (q.2 : Int))) (fun c => freeN_nodup t bar c) hK]
  · refine (fit_map (fun q : (Int × Int) × Nat => ((q.1.1, q.1.2, (q.2 : Int)) : Pl)) (fun p : Pl => ((p.1, p.2.1), p.2.2.toNat)) (fun _ _ => Iff.rfl) (fun r p hp => ?_) (fun q => ?_)).symm
    · obtain ⟨m, d, n⟩ := p
      have h := (mem_placesL.1 hp.1).2.2.2
      show (m, d, ((n.toNat : Nat) : Int)) = (m, d, n)
      rw [Int.toNat_of_nonneg h.1]
    · rfl
  · rintro r _ ⟨m, d⟩ n
    rw [mem_freeN]
    simp only [adjB, mem_placesL, adjM]
    constructor
    · rintro ⟨⟨h1, h2, h3, h4, h5⟩, h6⟩; exact ⟨⟨h1, h2, h3⟩, by omega, h6⟩
    · rintro ⟨⟨h1, h2, h3⟩, h4, h6⟩; exact ⟨⟨h1, h2, h3, by omega, by omega⟩, h6⟩
theorem free_none (t : Task) (c : Int × Int) : (freeN t (fun _ => false) c).length = (capT t c.1 c.2).toNat := by
  unfold freeN
  show ((List.range (capT t c.1 c.2).toNat).filter fun _ => true).length = _
  rw [List.filter_eq_self.2 fun _ _ => rfl, List.length_range]
theorem fitN_cells {t : Task} {K : List Nat} (hK : K.Nodup) : fitN t K ↔ FitC (adjM t) (fun c => (capT t c.1 c.2).toNat) K := by
  rw [fitN, fit_cells hK]
  simp only [free_none]
def lowP (d : Nat) (x : Mach) : Mach := ⟨x.name, x.places.modify d (· - 1)⟩
def low (u : Task) (m d : Nat) : Task := ⟨u.first, u.days, u.machines.modify m (lowP d), u.reels⟩
def capM (u : Task) (m d : Nat) : Int := (u.machines.getD m noMach).places.getD d 0
theorem getD_modify {α : Type} {l : List α} {i j : Nat} {f : α -> α} {x : α} : (l.modify i f).getD j x = if i = j /\ j < l.length then f (l.getD j x) else l.getD j x := by
  simp only [List.getD_eq_getElem?_getD, List.getElem?_modify]
  by_cases h : i = j
  · subst h
    by_cases hl : i < l.length
    · simp [hl]
    · simp [hl]
  · simp [h]
theorem capM_low {u : Task} {m d m' d' : Nat} (hm : m < u.machines.length) (hd : d < (u.machines.getD m noMach).places.length) : capM (low u m d) m' d' = if m' = m /\ d' = d then capM u m d - 1 else capM u m' d' := by
  unfold capM low
  rw [getD_modify]
  by_cases h : m' = m
  · subst h
    rw [if_pos ⟨rfl, hm⟩]
    show ((u.machines.getD m' noMach).places.modify d (· - 1)).getD d' 0 = _
    rw [getD_modify]
    by_cases h2 : d' = d
    · subst h2; rw [if_pos ⟨rfl, hd⟩, if_pos ⟨rfl, rfl⟩]
    · rw [if_neg (fun e => h2 e.1.symm), if_neg (fun e => h2 e.2)]
  · rw [if_neg (fun e => h e.1.symm), if_neg (fun e => h e.1)]
theorem low_len (u : Task) (m d : Nat) : (low u m d).machines.length = u.machines.length := by simp [low]
structure Lowd (t u : Task) : Prop where
  first : u.first = t.first
  days : u.days = t.days
  reels : u.reels = t.reels
  len : u.machines.length = t.machines.length
  pl : ∀ m, m < t.machines.length -> ((u.machines.getD m noMach).places.length : Int) = t.days
  cap : ∀ m d, 0 <= capM u m d /\ capM u m d <= 20
theorem getD_mem {α : Type} {l : List α} {i : Nat} {x : α} (h : i < l.length) : l.getD i x ∈ l := by rw [List.getD_eq_getElem?_getD, List.getElem?_eq_getElem h]; exact List.getElem_mem h
theorem getD_out {α : Type} {l : List α} {i : Nat} {x : α} (h : l.length <= i) : l.getD i x = x := by rw [List.getD_eq_getElem?_getD, List.getElem?_eq_none h]; rfl
theorem Lowd.refl {t : Task} (hV : Valid t) : Lowd t t := by
  refine ⟨rfl, rfl, rfl, rfl, fun m hm => (hV.ms _ (getD_mem hm)).1, fun m d => ?_⟩
  unfold capM
  rcases Nat.lt_or_ge m t.machines.length with hm | hm
  · rcases Nat.lt_or_ge d (t.machines.getD m noMach).places.length with hd | hd
    · exact (hV.ms _ (getD_mem hm)).2 _ (getD_mem hd)
    · rw [getD_out hd]; omega
  · rw [getD_out hm]; simp [noMach]
theorem Lowd.low {t u : Task} (h : Lowd t u) (hV : Valid t) {m d : Nat} (hm : m < t.machines.length) (hd : d < t.days.toNat) (hc : capM u m d ≠ 0) : Lowd t (low u m d) := by
  have hp := h.pl m hm
  have hm' : m < u.machines.length := by rw [h.len]; exact hm
  have hd' : d < (u.machines.getD m noMach).places.length := by omega
  refine ⟨h.first, h.days, h.reels, by rw [low_len, h.len], fun m' hm2 => ?_, fun m' d' => ?_⟩
  · show (((u.machines.modify m (lowP d)).getD m' noMach).places.length : Int) = _
    rw [getD_modify]
    split
    · show ((((u.machines.getD m' noMach).places.modify d (· - 1)).length : Nat) : Int) = _
      rw [List.length_modify]; exact h.pl m' hm2
    · exact h.pl m' hm2
  · rw [capM_low hm' hd']
    have h1 := h.cap m d
    have h2 := h.cap m' d'
    split <;> omega
theorem Lowd.valid {t u : Task} (h : Lowd t u) (hV : Valid t) : Valid u := by
  refine ⟨by rw [h.first]; exact hV.f0, by rw [h.first]; exact hV.f1, by rw [h.days]; exact hV.d0, by rw [h.days]; exact hV.d1, by rw [h.first, h.days]; exact hV.last, by rw [h.len]; exact hV.m0, by rw [h.len]; exact hV.m1, by rw [h.reels]; exact hV.r1, fun x hx => ?_, fun r hr => ?_⟩
  · obtain ⟨m, hm, rfl⟩ := List.getElem_of_mem hx
    have e : u.machines.getD m noMach = u.machines[m] := by rw [List.getD_eq_getElem?_getD, List.getElem?_eq_getElem hm]; rfl
    have h1 := h.pl m (by rw [<- h.len]; exact hm)
    rw [e] at h1
    refine ⟨by rw [h.days]; exact h1, fun n hn => ?_⟩
    obtain ⟨d, hd, rfl⟩ := List.getElem_of_mem hn
    have h2 := h.cap m d
    unfold capM at h2
    rw [e] at h2
    have e2 : u.machines[m].places.getD d 0 = u.machines[m].places[d] := by rw [List.getD_eq_getElem?_getD, List.getElem?_eq_getElem hd]; rfl
    rw [e2] at h2; exact h2
  · rw [h.reels] at hr
    rw [h.len, h.first, h.days]
    exact hV.rs r hr
theorem Lowd.reelAt {t u : Task} (h : Lowd t u) (r : Int) : reelAt u r = reelAt t r := by unfold Dw.reelAt; rw [h.reels]
theorem Lowd.canB {t u : Task} (h : Lowd t u) (r m d : Int) : canB u r m d = canB t r m d := by unfold Dw.canB; rw [h.reelAt, h.first]
theorem Lowd.adjM {t u : Task} (h : Lowd t u) (r : Nat) (c : Int × Int) : adjM u r c ↔ adjM t r c := by unfold Dw.adjM; rw [h.reelAt]
theorem capT_M {u : Task} {m d : Nat} : capT u m (u.first + d) = capM u m d := by
  unfold capT capM
  rw [Int.toNat_natCast, show (u.first + (d : Int) - u.first).toNat = d by omega]
def cellsT (t : Task) : List (Nat × Nat) := (List.range t.days.toNat).flatMap fun d => (List.range t.machines.length).map fun m => (d, m)
def ltC (a b : Nat × Nat) : Prop := a.1 < b.1 \/ (a.1 = b.1 /\ a.2 < b.2)
open Classical in
noncomputable def okC (u : Task) (r : Nat) (rest : List Nat) (c : Nat × Nat) : Bool := decide (canB u r c.2 c.1 = true /\ capM u c.2 c.1 ≠ 0 /\ fitN (low u c.2 c.1) rest)
noncomputable def turnC (u : Task) (r : Nat) (rest : List Nat) : Option (Nat × Nat) := (cellsT u).find? (okC u r rest)
noncomputable def turnsG (u : Task) : List Nat -> List Turn
  | [] => []
  | r :: rest => match turnC u r rest with
    | none => turnsG u rest
    | some c => ⟨r, c.2, u.first + c.1⟩ :: turnsG (low u c.2 c.1) rest
open Classical in
noncomputable def barL (G : List Pl) (p : Pl) : Bool := decide (p ∈ G)
open Classical in
noncomputable def okP (t : Task) (G : List Pl) (rest : List Nat) (p : Pl) : Bool := decide (p ∉ G /\ Fit (adjB t (barL (p :: G))) rest)
open Classical in
theorem barL_iff {G : List Pl} {p : Pl} : barL G p = true ↔ p ∈ G := decide_eq_true_iff
open Classical in
theorem barL_ff {G : List Pl} {p : Pl} : barL G p = false ↔ p ∉ G := decide_eq_false_iff_not
noncomputable def turnP (t : Task) (G : List Pl) (r : Nat) (rest : List Nat) : Option Pl := (placesL t (r : Nat)).find? (okP t G rest)
noncomputable def turnsP (t : Task) (G : List Pl) : List Nat -> List Turn
  | [] => []
  | r :: rest => match turnP t G r rest with
    | none => turnsP t G rest
    | some p => ⟨r, p.1, p.2.1⟩ :: turnsP t (p :: G) rest
structure BarLow (t u : Task) (G : List Pl) : Prop where
  low : Lowd t u
  eq : ∀ m d, m < t.machines.length -> d < t.days.toNat -> capM u m d = (freeN t (barL G) ((m : Int), t.first + (d : Int))).length
theorem BarLow.start {t : Task} (hV : Valid t) : BarLow t t [] := by
  refine ⟨Lowd.refl hV, fun m d hm hd => ?_⟩
  have e : barL [] = fun _ => false := by funext p; exact barL_ff.2 (by simp)
  rw [e, free_none]
  show _ = ((capT t (m : Int) (t.first + (d : Int))).toNat : Int)
  rw [capT_M]
  have := ((Lowd.refl hV).cap m d).1
  omega
theorem adjM_cell {t : Task} (hV : Valid t) {r : Nat} (hr : r < t.reels.length) {m d : Int} (h : adjM t r (m, d)) : ∃ m' d' : Nat, m = m' /\ d = t.first + d' /\ m' < t.machines.length /\ d' < t.days.toNat := by
  obtain ⟨h1, h2, h3⟩ := h
  rw [reelAt_nat hr] at h1 h2 h3
  obtain ⟨_, g1, _, g2, _⟩ := hV.rs _ (List.getElem_mem hr)
  have := g1 m h1
  exact ⟨m.toNat, (d - t.first).toNat, by omega, by omega, by omega, by omega⟩
theorem BarLow.fit {t u : Task} {G : List Pl} (h : BarLow t u G) (hV : Valid t) {K : List Nat} (hK : K.Nodup) (hr : ∀ r ∈ K, r < t.reels.length) : Fit (adjB t (barL G)) K ↔ fitN u K := by
  rw [fitN_cells hK, fit_cells hK]
  have key : ∀ r ∈ K, ∀ c, adjM t r c -> (freeN t (barL G) c).length = (capT u c.1 c.2).toNat := by
    rintro r hrK ⟨m, d⟩ hc
    obtain ⟨m', d', rfl, rfl, hm, hd⟩ := adjM_cell hV (hr r hrK) hc
    have h1 := h.eq m' d' hm hd
    have h2 : capT u (m' : Int) (t.first + (d' : Int)) = capM u m' d' := by rw [<- h.low.first]; exact capT_M
    show _ = (capT u (m' : Int) (t.first + (d' : Int))).toNat
    rw [h2, h1]; rfl
  constructor
  · exact fitC_mono (fun r _ c hc => (h.low.adjM r c).2 hc) (fun r hrK c hc => Nat.le_of_eq (key r hrK c hc))
  · exact fitC_mono (fun r _ c hc => (h.low.adjM r c).1 hc) (fun r hrK c hc => Nat.le_of_eq (key r hrK c ((h.low.adjM r c).1 hc)).symm)
theorem filter_rem {l : List Nat} {p : Nat -> Bool} {n : Nat} (hd : l.Nodup) (hn : n ∈ l) (hp : p n = true) : (l.filter fun x => p x && decide (x ≠ n)).length + 1 = (l.filter p).length := by
  induction l with
  | nil => cases hn
  | cons a l ih =>
    rw [List.nodup_cons] at hd
    rcases List.mem_cons.1 hn with e | g
    · subst e
      have e1 : (l.filter fun x => p x && decide (x ≠ n)) = l.filter p := List.filter_congr fun x hx => by
        have : x ≠ n := fun e => hd.1 (e ▸ hx)
        simp [this]
      rw [List.filter_cons, List.filter_cons, if_pos hp, if_neg (by simp), e1]; rfl
    · have hne : a ≠ n := fun e => hd.1 (e ▸ g)
      have := ih hd.2 g
      simp only [ne_eq] at this ⊢
      rw [List.filter_cons, List.filter_cons]
      by_cases hpa : p a = true
      · simp only [hpa, hne, Bool.true_and, not_false_eq_true, decide_true, if_true, List.length_cons]; omega
      · simp only [hpa, Bool.false_and, if_false, Bool.false_eq_true]; exact this
theorem BarLow.step {t u : Task} {G : List Pl} (h : BarLow t u G) (hV : Valid t) {m d : Nat} {n : Int} (hm : m < t.machines.length) (hd : d < t.days.toNat) (hn0 : 0 <= n) (hn : n < capT t m (t.first + (d : Int))) (hG : (((m : Int), t.first + (d : Int), n) : Pl) ∉ G) : BarLow t (Dw.low u m d) (((m : Int), t.first + (d : Int), n) :: G) := by
  have hmem : n.toNat ∈ freeN t (barL G) ((m : Int), t.first + (d : Int)) := mem_freeN.2 ⟨by show n.toNat < (capT t m (t.first + (d : Int))).toNat; omega, by
    show barL G ((m : Int), t.first + (d : Int), ((n.toNat : Nat) : Int)) = false
    rw [Int.toNat_of_nonneg hn0]; exact barL_ff.2 hG⟩
  have h1 := h.eq m d hm hd
  have hpos : 0 < (freeN t (barL G) ((m : Int), t.first + (d : Int))).length := List.length_pos_of_mem hmem
  have hm' : m < u.machines.length := by rw [h.low.len]; exact hm
  have hd' : d < (u.machines.getD m noMach).places.length := by have := h.low.pl m hm; omega
  refine ⟨h.low.low hV hm hd (by omega), fun m' d' hm2 hd2 => ?_⟩
  rw [capM_low hm' hd']
  by_cases hc : m' = m /\ d' = d
  · obtain ⟨rfl, rfl⟩ := hc
    rw [if_pos ⟨rfl, rfl⟩, h1]
    have e := filter_rem (p := fun k => !barL G ((m' : Int), t.first + (d' : Int), (k : Int))) List.nodup_range (mem_freeN.1 hmem |>.1 |> List.mem_range.2) (by
      have := (mem_freeN.1 hmem).2
      simpa using this)
    have e2 : freeN t (barL (((m' : Int), t.first + (d' : Int), n) :: G)) ((m' : Int), t.first + (d' : Int)) = (List.range (capT t m' (t.first + (d' : Int))).toNat).filter fun (k : Nat) => (!barL G ((m' : Int), t.first + (d' : Int), (k : Int))) && decide (k ≠ n.toNat) := by
      refine List.filter_congr fun k _ => ?_
      show (!barL (((m' : Int), t.first + (d' : Int), n) :: G) ((m' : Int), t.first + (d' : Int), (k : Int))) = _
      have e3 : ((m' : Int), t.first + (d' : Int), (k : Int)) ∈ (((m' : Int), t.first + (d' : Int), n) : Pl) :: G ↔ k = n.toNat \/ ((m' : Int), t.first + (d' : Int), (k : Int)) ∈ G := by
        rw [List.mem_cons]
        refine or_congr ?_ Iff.rfl
        simp only [Prod.mk.injEq, true_and]
        omega
      rw [Bool.eq_iff_iff, Bool.not_eq_true', Bool.and_eq_true, Bool.not_eq_true', barL_ff, barL_ff, e3, decide_eq_true_eq, not_or]
      exact and_comm
    rw [e2]
    have e' : ((List.range (capT t m' (t.first + (d' : Int))).toNat).filter fun (k : Nat) => (!barL G ((m' : Int), t.first + (d' : Int), (k : Int))) && decide (k ≠ n.toNat)).length + 1 = (freeN t (barL G) ((m' : Int), t.first + (d' : Int))).length := e
    omega
  · rw [if_neg hc, h.eq m' d' hm2 hd2]
    congr 2
    refine List.filter_congr fun k _ => ?_
    show (!barL G ((m' : Int), t.first + (d' : Int), (k : Int))) = !barL (((m : Int), t.first + (d : Int), n) :: G) ((m' : Int), t.first + (d' : Int), (k : Int))
    congr 1
    rw [Bool.eq_iff_iff, barL_iff, barL_iff, List.mem_cons]
    refine ⟨.inr, fun x => x.resolve_left fun e => hc ?_⟩
    simp only [Prod.mk.injEq] at e
    omega
def ltP (a b : Pl) : Prop := a.2.1 < b.2.1 \/ (a.2.1 = b.2.1 /\ (a.1 < b.1 \/ (a.1 = b.1 /\ a.2.2 < b.2.2)))
end Go.Dw
/- W10: what Plan answers, with no program in sight. -/
namespace Go.Dw
open Go Go.Dx Go.Proofs Go.Mt
theorem perm_le_eq : ∀ {l s : List Int}, l.Perm s -> Sorted l -> Sorted s -> l = s
  | [], s, hp, _, _ => (List.nil_perm.1 hp).symm
  | a :: l, [], hp, _, _ => absurd hp.symm (by intro h; exact absurd (List.nil_perm.1 h) (by simp))
  | a :: l, b :: s, hp, h1, h2 => by
    unfold Sorted at h1 h2
    rw [List.pairwise_cons] at h1 h2
    have e : a = b := by
      have k1 : b <= a := by
        rcases List.mem_cons.1 (hp.subset List.mem_cons_self) with e | g
        · omega
        · exact h2.1 a g
      have k2 : a <= b := by
        rcases List.mem_cons.1 (hp.symm.subset List.mem_cons_self) with e | g
        · omega
        · exact h1.1 b g
      omega
    subst e
    rw [perm_le_eq ((List.perm_cons a).1 hp) h1.2 h2.2]
def sortI (l : List Int) : List Int := l.mergeSort fun a b => decide (a <= b)
theorem sortI_perm (l : List Int) : (sortI l).Perm l := List.mergeSort_perm _ _
theorem sortI_sorted (l : List Int) : Sorted (sortI l) := (List.pairwise_mergeSort (fun a b c h1 h2 => decide_eq_true (by have := of_decide_eq_true h1; have := of_decide_eq_true h2; omega)) (fun a b => by simp only [Bool.or_eq_true, decide_eq_true_eq]; omega) l).imp fun h => of_decide_eq_true h
theorem sortI_eq {l s : List Int} (hp : s.Perm l) (hs : Sorted s) : s = sortI l := perm_le_eq (hp.trans (sortI_perm l).symm) hs (sortI_sorted l)
theorem sortI_len (l : List Int) : (sortI l).length = l.length := (sortI_perm l).length_eq
theorem mem_sortI {l : List Int} {x : Int} : x ∈ sortI l ↔ x ∈ l := (sortI_perm l).mem_iff
theorem sortI_nodup {l : List Int} (h : l.Nodup) : (sortI l).Nodup := (sortI_perm l).nodup_iff.2 h
def riskLe (t : Task) (a b : Nat) : Bool := decide (riskN t b < riskN t a \/ (riskN t a = riskN t b /\ a <= b))
def ordN (t : Task) : List Nat := (List.range t.reels.length).mergeSort (riskLe t)
theorem ordN_perm (t : Task) : (ordN t).Perm (List.range t.reels.length) := List.mergeSort_perm _ _
theorem ordN_nodup (t : Task) : (ordN t).Nodup := (ordN_perm t).nodup_iff.2 List.nodup_range
theorem mem_ordN {t : Task} {r : Nat} : r ∈ ordN t ↔ r < t.reels.length := (ordN_perm t).mem_iff.trans List.mem_range
theorem ordN_by (t : Task) : ByRisk t (ordN t) := by
  have h1 := List.pairwise_mergeSort (le := riskLe t) (fun a b c h1 h2 => decide_eq_true (by have := of_decide_eq_true h1; have := of_decide_eq_true h2; omega)) (fun a b => by simp only [riskLe, Bool.or_eq_true, decide_eq_true_eq]; omega) (List.range t.reels.length)
  exact (List.Pairwise.and h1 (ordN_nodup t)).imp fun ⟨h1, h2⟩ => by have := of_decide_eq_true h1; omega
theorem ord_eq {t : Task} {s : List Nat} (hp : s.Perm (List.range t.reels.length)) (hb : ByRisk t s) : s = ordN t := byRisk_eq (hp.trans (ordN_perm t).symm) hb (ordN_by t)
noncomputable abbrev goT (t : Task) : List Nat × List (Nat × List Nat) := goN t (ordN t)
abbrev ints (l : List Nat) : List Int := l.map fun (r : Nat) => (r : Int)
noncomputable def keptI (t : Task) : List Int := sortI (ints (goT t).1)
noncomputable def keptS (t : Task) : List Nat := natsL (keptI t)
noncomputable def byOf (t : Task) (r : Nat) : List Nat := ((goT t).2.lookup r).getD []
noncomputable def lateN (t : Task) : List Nat := (List.range t.reels.length).filter fun (r : Nat) => !decide ((r : Int) ∈ keptI t)
noncomputable def latOf (t : Task) (r : Nat) : Lat := ⟨(r : Int), sortI (ints (byOf t r))⟩
noncomputable def lateL (t : Task) : List Lat := (lateN t).map (latOf t)
noncomputable def planS (t : Task) : List Turn × List Lat × Int := if errS t ≠ 0 then ([], [], errS t) else (turnsG t (keptS t), lateL t, 0)
theorem goT_sub (t : Task) : (goT t).1.Sublist (ordN t) := goN_sub t _
theorem goT_nodup (t : Task) : (goT t).1.Nodup := (ordN_nodup t).sublist (goT_sub t)
theorem goT_lt {t : Task} {r : Nat} (h : r ∈ (goT t).1) : r < t.reels.length := mem_ordN.1 ((goT_sub t).subset h)
theorem ints_nodup {l : List Nat} (h : l.Nodup) : (ints l).Nodup := map_nodup (fun a _ b _ e => by omega) h
theorem mem_ints {l : List Nat} {r : Nat} : (r : Int) ∈ ints l ↔ r ∈ l := by
  unfold ints
  rw [List.mem_map]
  exact ⟨fun ⟨a, ha, e⟩ => (show a = r by omega) ▸ ha, fun h => ⟨r, h, rfl⟩⟩
theorem mem_keptI {t : Task} {r : Nat} : (r : Int) ∈ keptI t ↔ r ∈ (goT t).1 := mem_sortI.trans mem_ints
theorem keptI_nodup (t : Task) : (keptI t).Nodup := sortI_nodup (ints_nodup (goT_nodup t))
theorem keptI_in {t : Task} {x : Int} (h : x ∈ keptI t) : 0 <= x /\ x < t.reels.length := by
  obtain ⟨r, hr, rfl⟩ := List.mem_map.1 (mem_sortI.1 h)
  have := goT_lt hr; omega
theorem keptI_len (t : Task) : (keptI t).length <= t.reels.length := by
  have h1 : (keptI t).length = (goT t).1.length := by rw [keptI, sortI_len]; exact List.length_map _
  have h2 := (goT_sub t).length_le
  rw [(ordN_perm t).length_eq, List.length_range] at h2
  omega
theorem mem_keptS {t : Task} {r : Nat} : r ∈ keptS t ↔ r ∈ (goT t).1 := by
  rw [keptS, natsL, List.mem_map]
  constructor
  · rintro ⟨x, hx, rfl⟩
    have := keptI_in hx
    exact mem_keptI.1 (by rw [Int.toNat_of_nonneg this.1]; exact hx)
  · exact fun h => ⟨(r : Int), mem_keptI.2 h, Int.toNat_natCast r⟩
theorem goN_keys (t : Task) (s : List Nat) : ((goN t s).2.map Prod.fst).Sublist s := by
  refine snoc_ind (p := fun s => ((goN t s).2.map Prod.fst).Sublist s) List.Sublist.slnil (fun s x ih => ?_) s
  · rw [goN_snoc]
    unfold stepN
    split
    · exact ih.trans (List.sublist_append_left _ _)
    · rw [List.map_append]; exact ih.append (List.Sublist.refl _)
theorem lookup_mem {l : List (Nat × List Nat)} (hn : (l.map Prod.fst).Nodup) {p : Nat × List Nat} (hp : p ∈ l) : l.lookup p.1 = some p.2 := by
  induction l with
  | nil => cases hp
  | cons q l ih =>
    rw [List.map_cons, List.nodup_cons] at hn
    obtain ⟨a, b⟩ := q
    rcases List.mem_cons.1 hp with e | g
    · rw [e]; exact List.lookup_cons_self
    · have hne : (p.1 == a) = false := by
        simp only [beq_eq_false_iff_ne, ne_eq]
        rintro e
        exact hn.1 (List.mem_map.2 ⟨p, g, e⟩)
      rw [List.lookup_cons, hne]
      exact ih hn.2 g
theorem byOf_mem {t : Task} {p : Nat × List Nat} (hp : p ∈ (goT t).2) : byOf t p.1 = p.2 := by
  unfold byOf
  rw [lookup_mem ((ordN_nodup t).sublist (goN_keys t _)) hp]; rfl
theorem late_iff {t : Task} {r : Nat} : r ∈ lateN t ↔ r ∈ (goT t).2.map Prod.fst := by
  have hd : ∀ (s : List Nat), s.Nodup -> ∀ r ∈ (goN t s).1, r ∉ (goN t s).2.map Prod.fst := by
    refine snoc_ind (fun _ _ h => nomatch h) (fun s x ih hn r hr => ?_)
    have hs := List.nodup_append.1 hn
    have hx : x ∉ s := fun h => hs.2.2 x h x (by simp) rfl
    rw [goN_snoc] at hr ⊢
    unfold stepN at hr ⊢
    split
    · rename_i hf
      rw [if_pos hf] at hr
      rcases List.mem_append.1 hr with g | g
      · exact ih hs.1 r g
      · rw [List.mem_singleton.1 g]; exact fun h => hx ((goN_keys t s).subset h)
    · rename_i hf
      rw [if_neg hf] at hr
      rw [List.map_append, List.mem_append]
      rintro (g | g)
      · exact ih hs.1 r hr g
      · have : r = x := by simpa using g
        exact hx (this ▸ (goN_sub t s).subset hr)
  unfold lateN
  rw [List.mem_filter, List.mem_range]
  have h1 := goN_mem t (ordN t) r
  rw [mem_ordN] at h1
  have h2 := hd (ordN t) (ordN_nodup t) r
  simp only [Bool.not_eq_true', decide_eq_false_iff_not, mem_keptI]
  constructor
  · rintro ⟨a, b⟩; exact (h1.1 a).resolve_left b
  · intro a; exact ⟨h1.2 (.inr a), fun b => h2 b a⟩
end Go.Dw
/- W11: Plan leaves least, with no program in sight. -/
namespace Go.Dw
open Go Go.Dx Go.Proofs Go.Mt
def riskT (t : Task) (r : Nat) : Nat := (riskN t r).toNat
def totR (t : Task) : Nat := sumR (riskT t) (List.range t.reels.length)
abbrev reelsN (l : List Turn) : List Nat := natsL (l.map Turn.reel)
def cellOf (l : List Turn) (r : Nat) : Int × Int := match l.find? (fun y => decide (y.reel = (r : Int))) with
  | some x => (x.machine, x.day)
  | none => (0, 0)
theorem places_lt {t : Task} {bar : Pl -> Bool} {r : Nat} {p : Pl} (h : adjB t bar r p) : r < t.reels.length := by
  obtain ⟨m, d, n⟩ := p
  have h1 := (mem_placesL.1 h.1).1
  rcases Nat.lt_or_ge r t.reels.length with g | g
  · exact g
  · exfalso
    have e : reelAt t (r : Nat) = noReel := by unfold reelAt; rw [Int.toNat_natCast]; exact getD_out g
    rw [e] at h1; cases h1
def allPl (t : Task) : List Pl := (List.range t.reels.length).flatMap fun (r : Nat) => placesL t (r : Nat)
theorem adjB_all {t : Task} {bar : Pl -> Bool} : ∀ r p, adjB t bar r p -> p ∈ allPl t := fun r p h => List.mem_flatMap.2 ⟨r, List.mem_range.2 (places_lt h), h.1⟩
theorem goN_late {t : Task} : ∀ (s : List Nat), s.Nodup -> ByRisk t s -> ∀ p ∈ (goN t s).2, ∃ K1, K1.Sublist (goN t s).1 /\ ¬ fitN t (K1 ++ [p.1]) /\ p.2 = byN t K1 p.1 /\ p.1 ∉ K1 /\ p.1 ∉ (goN t s).1 /\ ∀ k ∈ K1, riskN t p.1 <= riskN t k := by
  refine snoc_ind (fun _ _ p hp => by cases hp) (fun s x ih hn hb p hp => ?_)
  have hs := List.nodup_append.1 hn
  have hx : x ∉ s := fun h => hs.2.2 x h x (by simp) rfl
  have hb' := List.pairwise_append.1 hb
  have hxk : x ∉ (goN t s).1 := fun h => hx ((goN_sub t s).subset h)
  rw [goN_snoc] at hp ⊢
  unfold stepN at hp ⊢
  split
  · rename_i hf
    rw [if_pos hf] at hp
    obtain ⟨K1, a1, a2, a3, a4, a5, a6⟩ := ih hs.1 hb'.1 p hp
    refine ⟨K1, a1.trans (List.sublist_append_left _ _), a2, a3, a4, fun h => ?_, a6⟩
    rcases List.mem_append.1 h with g | g
    · exact a5 g
    · have : p.1 = x := List.mem_singleton.1 g
      exact hx (this ▸ (goN_keys t s).subset (List.mem_map.2 ⟨p, hp, rfl⟩))
  · rename_i hf
    rw [if_neg hf] at hp
    rcases List.mem_append.1 hp with g | g
    · obtain ⟨K1, a1, a2, a3, a4, a5, a6⟩ := ih hs.1 hb'.1 p g
      exact ⟨K1, a1, a2, a3, a4, a5, a6⟩
    · rw [List.mem_singleton.1 g]
      refine ⟨(goN t s).1, List.Sublist.refl _, hf, rfl, hxk, hxk, fun k hk => ?_⟩
      have := hb'.2.2 k ((goN_sub t s).subset hk) x (by simp)
      show riskN t x <= riskN t k
      omega
theorem fit_comm {t : Task} {K : List Nat} {r : Nat} : fitN t (K ++ [r]) ↔ fitN t (r :: K) := Fit.congr (fun _ _ _ => Iff.rfl) fun x => by simp [or_comm]
end Go.Dw
/- W12: late reels, by whom; plans that are proved, with no program in sight. -/
namespace Go.Dw
open Go Go.Dx Go.Proofs Go.Mt
theorem mem_byN {t : Task} {K : List Nat} {r k : Nat} (hK : K.Nodup) : k ∈ byN t K r ↔ By (adjB t fun _ => false) K r k := by
  have key : ∀ i (hi : i < K.length), fitN t (K.take i ++ K.drop (i + 1) ++ [r]) ↔ Fit (adjB t fun _ => false) (r :: out1 K K[i]) := fun i hi => by
    refine Fit.congr (fun _ _ _ => Iff.rfl) fun x => ?_
    rw [List.mem_append, List.mem_singleton, List.mem_cons, mem_out1]
    have e : K = K.take i ++ K[i] :: K.drop (i + 1) := by rw [<- List.drop_eq_getElem_cons hi, List.take_append_drop]
    have hn : (K.take i ++ K[i] :: K.drop (i + 1)).Nodup := by rw [<- e]; exact hK
    rw [List.nodup_append, List.nodup_cons] at hn
    have hm : x ∈ K ↔ x ∈ K.take i \/ x = K[i] \/ x ∈ K.drop (i + 1) := by
      conv => lhs; rw [e]
      rw [List.mem_append, List.mem_cons]
    rw [List.mem_append]
    constructor
    · rintro ((g | g) | g)
      · exact .inr ⟨hm.2 (.inl g), fun e2 => hn.2.2 x g K[i] List.mem_cons_self e2⟩
      · exact .inr ⟨hm.2 (.inr (.inr g)), fun e2 => hn.2.1.1 (e2 ▸ g)⟩
      · exact .inl g
    · rintro (g | ⟨g, hne⟩)
      · exact .inr g
      · rcases hm.1 g with a | a | a
        · exact .inl (.inl a)
        · exact absurd a hne
        · exact .inl (.inr a)
  unfold byN By
  rw [List.mem_flatMap]
  constructor
  · rintro ⟨i, hi, hk⟩
    have hi := List.mem_range.1 hi
    split at hk
    · rename_i hf
      have e : K.getD i 0 = K[i] := by rw [List.getD_eq_getElem?_getD, List.getElem?_eq_getElem hi]; rfl
      rw [e] at hk
      rw [List.mem_singleton.1 hk]
      exact ⟨List.getElem_mem hi, (key i hi).1 hf⟩
    · cases hk
  · rintro ⟨hm, hf⟩
    obtain ⟨i, hi, e⟩ := List.getElem_of_mem hm
    refine ⟨i, List.mem_range.2 hi, ?_⟩
    rw [if_pos ((key i hi).2 (by rw [e]; exact hf)), List.getD_eq_getElem?_getD, List.getElem?_eq_getElem hi, Option.getD_some, e]
    exact List.mem_cons_self
open Classical in
theorem byN_sub (t : Task) (K : List Nat) (r : Nat) : (byN t K r).Sublist K := by
  have h : ∀ k, k <= K.length -> ((List.range k).flatMap fun i => if fitN t (K.take i ++ K.drop (i + 1) ++ [r]) then [K.getD i 0] else []).Sublist (K.take k) := by
    intro k
    induction k with
    | zero => intro _; simp
    | succ k ih =>
      intro hk
      rw [List.range_succ, List.flatMap_append, take_succ (by omega)]
      refine (ih (by omega)).append ?_
      have e : K.getD k 0 = K[k] := by rw [List.getD_eq_getElem?_getD, List.getElem?_eq_getElem (by omega)]; rfl
      simp only [List.flatMap_cons, List.flatMap_nil, List.append_nil, e]
      split
      · exact List.Sublist.refl _
      · exact List.nil_sublist _
  have := h K.length (Nat.le_refl _)
  rw [List.take_length] at this
  exact this
theorem late_law {t : Task} (hV : Valid t) {r : Nat} (hr : r ∈ lateN t) :
    (byOf t r).Nodup /\ (∀ k ∈ byOf t r, k ∈ (goT t).1 /\ riskN t r <= riskN t k) /\ r ∉ (goT t).1 /\ r < t.reels.length /\ countS t ((r : Int) :: ints (byOf t r)) = ((byOf t r).length : Nat) := by
  obtain ⟨p, hp, rfl⟩ := List.mem_map.1 (late_iff.1 hr)
  rw [byOf_mem hp]
  obtain ⟨K1, a1, a2, a3, a4, a5, a6⟩ := goN_late _ (ordN_nodup t) (ordN_by t) p hp
  have hpl : p.1 < t.reels.length := mem_ordN.1 ((goN_keys t _).subset (List.mem_map.2 ⟨p, hp, rfl⟩))
  have hK1 : K1.Nodup := (goT_nodup t).sublist a1
  have hb := byN_sub t K1 p.1
  rw [a3]
  have hbn : (byN t K1 p.1).Nodup := hK1.sublist hb
  refine ⟨hbn, fun k hk => ⟨a1.subset (hb.subset hk), a6 k (hb.subset hk)⟩, a5, hpl, ?_⟩
  obtain ⟨f, h1, h2⟩ := goN_fit t (ordN t)
  have ha : ∀ x ∈ K1, adjB t (fun _ => false) x (f x) := fun x hx => h1 x (a1.subset hx)
  have hi : Inj f K1 := fun x hx y hy e => h2 x (a1.subset hx) y (a1.subset hy) e
  have hc := by_clo (allPl t) adjB_all hK1 ha hi a4 (fun h => a2 (fit_comm.2 h))
  have hin : InR t ((p.1 : Int) :: ints (byN t K1 p.1)) := fun y hy => by
    rcases List.mem_cons.1 hy with e | g
    · rw [e]; omega
    · obtain ⟨k, hk, rfl⟩ := List.mem_map.1 g
      have := goT_lt (a1.subset (hb.subset hk))
      omega
  have hnat : natsL ((p.1 : Int) :: ints (byN t K1 p.1)) = p.1 :: byN t K1 p.1 := by
    unfold natsL ints
    rw [List.map_cons, List.map_map, Int.toNat_natCast]
    congr 1
    exact (List.map_congr_left fun x _ => Int.toNat_natCast x).trans (List.map_id _)
  have := clo_count (L := byN t K1 p.1) (N := cellsL t ((p.1 : Int) :: ints (byN t K1 p.1)) t.machines.length) hc ha hi hbn (fun x => mem_byN hK1) (cellsL_nodup _ _ _) (fun q => by
    rw [mem_cellsL hV hin, places_nats hin, hnat])
  rw [countS_len hV, this]
end Go.Dw
