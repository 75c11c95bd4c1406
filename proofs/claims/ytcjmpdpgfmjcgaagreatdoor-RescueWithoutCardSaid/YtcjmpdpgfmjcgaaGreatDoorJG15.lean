/- W1: contracts: the reference's with, without, sorted. -/
import Derived.Test.YtcjmpdpgfmjcgaaGreatDoorJG2
import Derived.Test.YtcjmpdpgfmjcgaaGreatDoorJG14
import Derived.Test.YtcjmpdpgfmjcgaaGreatDoorJG11
namespace Go.Dw
open Go Go.Dx Go.Proofs
set_option maxRecDepth 100000
theorem FreshSl.upd {h0 h h' : Heap} {b o n : Nat} {sp : Option Nat} {el : TypeId} {cs cs' : List Value} {op : Bool} (hF : FreshSl h0 h (.slice (some ⟨b, o, sp⟩) n n) el 1 cs n) (hU : Upd h b (.cells cs' el op) h') (hl : cs'.length = cs.length) : FreshSl h0 h' (.slice (some ⟨b, o, sp⟩) n n) el 1 cs' n := by
  rcases hF with ⟨e, _⟩ | ⟨b', sp', op', e, h2, h3, h4, h5⟩
  · cases e
  · cases e; exact .inr ⟨b, sp, op, rfl, hU.at', by omega, h4, h5⟩
def Sorted (l : List Int) : Prop := l.Pairwise (· ≤ ·)
end Go.Dw
/- W2: the contract of the reference's order: reels by risk. -/
namespace Go.Dw
open Go Go.Dx Go.Proofs
set_option maxRecDepth 100000
def riskN (t : Task) (r : Nat) : Int := (reelAt t (r : Nat)).risk
/-- By risk, the greater one first; then by number. -/
def ByRisk (t : Task) (s : List Nat) : Prop := s.Pairwise fun a b => riskN t b < riskN t a ∨ (riskN t a = riskN t b ∧ a < b)
end Go.Dw
/- W3: contracts: Ints, SameTurns: lists compared. -/
namespace Go.Dw
open Go Go.Dx Go.Proofs
set_option maxRecDepth 100000
theorem refInts_sv {a b : Option Addr} {ca cb : Nat} {l s : List Int} {h : Heap} (hl : IntsAt h a l) (hs : IntsAt h b s) (hlen : Len l) :
    Sv Tryz.prog 66 [.slice a l.length ca, .slice b s.length cb] h (RetP fun v h' => v = .bool (decide (l = s)) ∧ h' = h) := by
  refine Sv_enter Tryz.func66 rfl (by rw [Tryz.ntmps66]; rfl) ?_; show Wc Tryz.prog ⟨66, 26, none⟩ _ _ _ _ _
  refine zz ?_
  by_cases c0 : l.length = s.length
  rotate_left
  · refine Wo_do rfl rfl rfl rfl (A_tt (by omega) (A_neq rfl rfl)) ?_
    refine zz ?_
    exact Wc_ret (Lv_ret rfl ⟨by rw [decide_eq_false (fun e => c0 (by rw [e]))]; rfl, rfl⟩)
  refine Wo_do rfl rfl rfl rfl (A_ff (by omega) (A_neq rfl rfl)) ?_
  refine zz ?_
  refine Wc_loop (fun (i : Nat) m ds h' => ds = [] ∧ h' = h ∧ i ≤ l.length ∧ l.take i = s.take i ∧ AllK m [(0, .slice a l.length ca), (1, .slice b s.length cb), (5, i64 i)]) (fun i => l.length - i) 0 ?_ ?_
  · exact ⟨rfl, rfl, Nat.zero_le _, rfl, rfl, rfl, rfl, trivial⟩
  rintro i m ds h' ⟨rfl, rfl, hi, htk, hall⟩
  refine Wc.le ?_ (Le.kn hall)
  refine zz ?_
  refine Wo_dec rfl rfl rfl rfl (A_lss rfl rfl) (fun hip => ?_) (fun hip => ?_)
  rotate_left
  · have : i = l.length := by omega
    subst this
    rw [List.take_length, c0, List.take_length] at htk
    refine zz ?_
    exact Wc_ret (Lv_ret rfl ⟨by rw [decide_eq_true htk]; rfl, rfl⟩)
  have hi' : i < l.length := by omega
  have hi2 : i < s.length := by omega
  obtain ⟨b1, o1, oa1, rfl, hc1⟩ := hl i hi'
  obtain ⟨b2, o2, oa2, rfl, hc2⟩ := hs i hi2
  by_cases c1 : l[i] = s[i]
  rotate_left
  · refine zz ?_
    refine Wc_draw hmix [0, 0, 3, 7, 0, 0, 48, 112, 255] [0, 1, 2, 3, 4, 5, 6, 7, 8] none [] (by kernel_rfl) (by kernel_rfl) ?_
    refine z_m ?_; refine z_m ?_; refine z_i ?_; refine z_l ?_; refine z_m ?_; refine z_m ?_; refine z_i ?_; refine z_l ?_; refine Wp_pure rfl rfl rfl rfl rfl (fun _ => A_tt c1 (A_neq rfl rfl)) ?_
    refine Wp_end (Stl_nil rfl) nb' ?_
    refine zz ?_
    exact Wc_ret (Lv_ret rfl ⟨by rw [decide_eq_false (fun e => c1 (by subst e; rfl))]; rfl, rfl⟩)
  refine zz ?_
  refine Wc_draw hmix [0, 0, 3, 7, 0, 0, 48, 112, 255] [0, 1, 2, 3, 4, 5, 6, 7, 8] none [] (by kernel_rfl) (by kernel_rfl) ?_
  refine z_m ?_; refine z_m ?_; refine z_i ?_; refine z_l ?_; refine z_m ?_; refine z_m ?_; refine z_i ?_; refine z_l ?_; refine Wp_pure rfl rfl rfl rfl rfl (fun _ => A_ff (fun x => x c1) (A_neq rfl rfl)) ?_
  refine Wp_end (Stl_nil rfl) nb' ?_
  refine zz ?_
  refine ⟨i + 1, ?_, rfl, rfl, hi', by rw [take_succ hi', take_succ hi2, htk, c1], rfl, rfl, rfl, trivial⟩
  show l.length - (i + 1) < l.length - i; omega
end Go.Dw
/- W4: contracts: SameTurns. -/
namespace Go.Dw
open Go Go.Dx Go.Proofs
set_option maxRecDepth 100000
noncomputable def turnK : KeyK Tryz.prog 59 (Int × Int × Int) where
  enc := fun p => .agg ⟨[i64 p.1, i64 p.2.1, i64 p.2.2]⟩
  ks := .struct [(.int .i64, 0), (.int .i64, 1), (.int .i64, 2)]
  hks := by kernel_rfl
  flat := fun _ => rfl
  ok := fun _ => rfl
  eq := placeK.eq
  same := fun a => by simp [Instr.sameBits]
theorem A_neqK {P : Program} {m : Mem} {h : Heap} {d : Option Tmp} {ty : TypeId} {pos : String} {af : Array Edge} {gu : Option (Nat × Bool)} {t tz : TypeId} {x y : Operand} {α : Type} [DecidableEq α] (K : KeyK P t α) {a b : α} {xs ys : List Value} (ha : K.enc a = .agg ⟨xs⟩) (hb : K.enc b = .agg ⟨ys⟩) (hgt : P.eqGuardType P.depth t = false) (hx : opk h m x = some (K.enc a)) (hy : opk h m y = some (K.enc b)) : Aop P ⟨d, .binOp .neq t x y tz, ty, pos, af, gu⟩ m h (.bool (decide (¬ a = b))) h :=
  A_bin hx hy (K.flat a) (K.flat b) rfl fun w => by
    have h1 := eqK_sound K.hks (K.eq a b) w
    rw [ha, hb] at h1 ⊢
    have h2 : (eqGuard .neq t x y (.agg ⟨xs⟩) (.agg ⟨ys⟩)).run P w = .ok () w := by
      simp [eqGuard, go_sem, hgt]
    simp only [Sem.run_bind, h2, Result.andThen_ok]
    simp [binOp, go_sem, h1]
theorem turn_eq {x y : Turn} (h : (x.reel, x.machine, x.day) = (y.reel, y.machine, y.day)) : x = y := by
  cases x; cases y
  simp only [Prod.mk.injEq] at h
  obtain ⟨h1, h2, h3⟩ := h
  subst h1; subst h2; subst h3; rfl
theorem sameTurns_sv {a b : Option Addr} {ca cb : Nat} {l s : List Turn} {h : Heap} (hl : TurnsAt h a l) (hs : TurnsAt h b s) (hlen : Len l) :
    Sv Tryz.prog 26 [.slice a l.length ca, .slice b s.length cb] h (RetP fun v h' => ∃ q, v = .bool q ∧ (q = true ↔ l = s) ∧ h' = h) := by
  refine Sv_enter Tryz.func26 rfl (by rw [Tryz.ntmps26]; rfl) ?_; show Wc Tryz.prog ⟨26, 26, none⟩ _ _ _ _ _
  refine zz ?_
  by_cases c0 : l.length = s.length
  rotate_left
  · refine Wo_do rfl rfl rfl rfl (A_tt (by omega) (A_neq rfl rfl)) ?_
    refine zz ?_
    exact Wc_ret (Lv_ret rfl ⟨false, rfl, ⟨(fun h => nomatch h), fun e => (c0 (by rw [e])).elim⟩, rfl⟩)
  refine Wo_do rfl rfl rfl rfl (A_ff (by omega) (A_neq rfl rfl)) ?_
  refine zz ?_
  refine Wc_loop (fun (i : Nat) m ds h' => ds = [] ∧ h' = h ∧ i ≤ l.length ∧ l.take i = s.take i ∧ AllK m [(0, .slice a l.length ca), (1, .slice b s.length cb), (5, i64 i)]) (fun i => l.length - i) 0 ?_ ?_
  · exact ⟨rfl, rfl, Nat.zero_le _, rfl, rfl, rfl, rfl, trivial⟩
  rintro i m ds h' ⟨rfl, rfl, hi, htk, hall⟩
  refine Wc.le ?_ (Le.kn hall)
  refine zz ?_
  refine Wo_dec rfl rfl rfl rfl (A_lss rfl rfl) (fun hip => ?_) (fun hip => ?_)
  rotate_left
  · have : i = l.length := by omega
    subst this
    rw [List.take_length, c0, List.take_length] at htk
    refine zz ?_
    exact Wc_ret (Lv_ret rfl ⟨true, rfl, ⟨fun _ => htk, fun _ => rfl⟩, rfl⟩)
  have hi' : i < l.length := by omega
  have hi2 : i < s.length := by omega
  obtain ⟨b1, o1, oa1, rfl, hc1, _⟩ := hl.at hi'
  obtain ⟨b2, o2, oa2, rfl, hc2, _⟩ := hs.at hi2
  by_cases c1 : (l[i].reel, l[i].machine, l[i].day) = (s[i].reel, s[i].machine, s[i].day)
  rotate_left
  · refine zz ?_
    refine Wc_draw hmix [0, 0, 3, 7, 0, 0, 48, 112, 255] [0, 1, 2, 3, 4, 5, 6, 7, 8] none [] (by kernel_rfl) (by kernel_rfl) ?_
    refine z_m ?_; refine z_m ?_; refine z_i ?_; refine z_r ?_; refine z_m ?_; refine z_m ?_; refine z_i ?_; refine z_r ?_; refine Wp_pure rfl rfl rfl rfl rfl (fun _ => A_tt c1 (A_neqK turnK (a := (l[i].reel, l[i].machine, l[i].day)) (b := (s[i].reel, s[i].machine, s[i].day)) rfl rfl (by kernel_rfl) rfl rfl)) ?_
    refine Wp_end (Stl_nil rfl) nb' ?_
    refine zz ?_
    exact Wc_ret (Lv_ret rfl ⟨false, rfl, ⟨(fun h => nomatch h), fun e => (c1 (by subst e; rfl)).elim⟩, rfl⟩)
  refine zz ?_
  refine Wc_draw hmix [0, 0, 3, 7, 0, 0, 48, 112, 255] [0, 1, 2, 3, 4, 5, 6, 7, 8] none [] (by kernel_rfl) (by kernel_rfl) ?_
  refine z_m ?_; refine z_m ?_; refine z_i ?_; refine z_r ?_; refine z_m ?_; refine z_m ?_; refine z_i ?_; refine z_r ?_; refine Wp_pure rfl rfl rfl rfl rfl (fun _ => A_ff (fun x => x c1) (A_neqK turnK (a := (l[i].reel, l[i].machine, l[i].day)) (b := (s[i].reel, s[i].machine, s[i].day)) rfl rfl (by kernel_rfl) rfl rfl)) ?_
  refine Wp_end (Stl_nil rfl) nb' ?_
  refine zz ?_
  refine ⟨i + 1, ?_, rfl, rfl, hi', by rw [take_succ hi', take_succ hi2, htk, turn_eq c1], rfl, rfl, rfl, trivial⟩
  show l.length - (i + 1) < l.length - i; omega
end Go.Dw
/- W5: contracts: SameLate. -/
namespace Go.Dw
open Go Go.Dx Go.Proofs
set_option maxRecDepth 100000
theorem lat_eq {x y : Lat} (h1 : x.reel = y.reel) (h2 : x.by' = y.by') : x = y := by
  cases x; cases y
  simp only at h1 h2
  subst h1; subst h2; rfl
theorem sameLate_sv {a b : Option Addr} {ca cb : Nat} {l s : List Lat} {h : Heap} (hl : LatsAt h a l) (hs : LatsAt h b s) (hlen : Len l) (hlf : ∀ x ∈ l, x.Fit) :
    Sv Tryz.prog 27 [.slice a l.length ca, .slice b s.length cb] h (RetP fun v h' => ∃ q, v = .bool q ∧ (q = true ↔ l = s) ∧ h' = h) := by
  refine Sv_enter Tryz.func27 rfl (by rw [Tryz.ntmps27]; rfl) ?_; show Wc Tryz.prog ⟨27, 42, none⟩ _ _ _ _ _
  refine zz ?_
  by_cases c0 : l.length = s.length
  rotate_left
  · refine Wo_do rfl rfl rfl rfl (A_tt (by omega) (A_neq rfl rfl)) ?_
    refine zz ?_
    exact Wc_ret (Lv_ret rfl ⟨false, rfl, ⟨(fun h => nomatch h), fun e => (c0 (by rw [e])).elim⟩, rfl⟩)
  refine Wo_do rfl rfl rfl rfl (A_ff (by omega) (A_neq rfl rfl)) ?_
  refine zz ?_
  refine Wc_loop (fun (i : Nat) m ds h' => ds = [] ∧ h' = h ∧ i ≤ l.length ∧ l.take i = s.take i ∧ AllK m [(0, .slice a l.length ca), (1, .slice b s.length cb), (5, i64 i)]) (fun i => l.length - i) 0 ?_ ?_
  · exact ⟨rfl, rfl, Nat.zero_le _, rfl, rfl, rfl, rfl, trivial⟩
  rintro i m ds h' ⟨rfl, rfl, hi, htk, hall⟩
  refine Wc.le ?_ (Le.kn hall)
  refine zz ?_
  refine Wo_dec rfl rfl rfl rfl (A_lss rfl rfl) (fun hip => ?_) (fun hip => ?_)
  rotate_left
  · have : i = l.length := by omega
    subst this
    rw [List.take_length, c0, List.take_length] at htk
    refine zz ?_
    exact Wc_ret (Lv_ret rfl ⟨true, rfl, ⟨fun _ => htk, fun _ => rfl⟩, rfl⟩)
  have hi' : i < l.length := by omega
  have hi2 : i < s.length := by omega
  obtain ⟨b1, o1, oa1, ab1, cb1, rfl, hr1, hc1, hb1⟩ := hl.at hi'
  obtain ⟨b2, o2, oa2, ab2, cb2, rfl, hr2, hc2, hb2⟩ := hs.at hi2
  have hc1' := cell_of_row (k := 1) hr1 rfl
  have hc2' := cell_of_row (k := 1) hr2 rfl
  have hbl : Len l[i].by' := (hlf _ (List.getElem_mem hi')).len
  have hbad : l[i] ≠ s[i] → (false = true ↔ l = s) := fun hne => ⟨(fun h => nomatch h), fun e => (hne (by subst e; rfl)).elim⟩
  by_cases c1 : l[i].reel = s[i].reel
  rotate_left
  · refine zz ?_
    refine Wc_draw hmix [0, 0, 3, 7, 15, 0, 0, 96, 224, 480, 1023, 2047, 4095, 4095, 16383, 32767, 65535, 4095, 4095, 397311, 921599, 1970175, 4194303, 8388607, 16777215] [0, 1, 2, 3, 4, 5, 6, 7, 8, 9, 10, 11, 12, 13, 14, 15, 16, 17, 18, 19, 20, 21] (some 22) [([23, 24], none)] (by kernel_rfl) (by kernel_rfl) ?_
    refine z_m ?_; refine z_m ?_; refine z_i ?_; refine z_f ?_; refine z_l ?_; refine z_m ?_; refine z_m ?_; refine z_i ?_; refine z_f ?_; refine z_l ?_; refine Wp_pure rfl rfl rfl rfl rfl (fun _ => A_tt c1 (A_neq rfl rfl)) ?_; refine z_m ?_; refine g_m ?_; refine g_m ?_; refine g_i ?_; refine g_f ?_; refine g_l ?_; refine g_m ?_; refine g_m ?_; refine g_i ?_; refine g_f ?_; refine g_l ?_
    refine Wp_eff [0, 1, 2, 3, 4, 5, 6, 7, 8, 9, 10, 11, 12, 13, 14, 15, 16, 17, 18, 19, 20, 21] (by kernel_rfl) rfl (Stl_nil rfl) rfl nb rfl (W1_off rfl ?_)
    refine g_n ?_; refine z_p ?_
    refine Wp_end (Stl_nil rfl) nb' ?_
    refine zz ?_
    exact Wc_ret (Lv_ret rfl ⟨false, rfl, hbad (fun e => c1 (by rw [e])), rfl⟩)
  by_cases c2 : l[i].by' = s[i].by'
  rotate_left
  · refine zz ?_
    refine Wc_draw hmix [0, 0, 3, 7, 15, 0, 0, 96, 224, 480, 1023, 2047, 4095, 4095, 16383, 32767, 65535, 4095, 4095, 397311, 921599, 1970175, 4194303, 8388607, 16777215] [0, 1, 2, 3, 4, 5, 6, 7, 8, 9, 10, 11, 12, 13, 14, 15, 16, 17, 18, 19, 20, 21] (some 22) [([23, 24], none)] (by kernel_rfl) (by kernel_rfl) ?_
    refine z_m ?_; refine z_m ?_; refine z_i ?_; refine z_f ?_; refine z_l ?_; refine z_m ?_; refine z_m ?_; refine z_i ?_; refine z_f ?_; refine z_l ?_; refine Wp_pure rfl rfl rfl rfl rfl (fun _ => A_ff (fun x => x c1) (A_neq rfl rfl)) ?_; refine z_m ?_; refine g_m ?_; refine g_m ?_; refine g_i ?_; refine g_f ?_; refine g_l ?_; refine g_m ?_; refine g_m ?_; refine g_i ?_; refine g_f ?_; refine g_l ?_
    refine Wp_eff [0, 1, 2, 3, 4, 5, 6, 7, 8, 9, 10, 11, 12, 13, 14, 15, 16, 17, 18, 19, 20, 21] (by kernel_rfl) rfl (Stl_nil rfl) rfl nb rfl (W1_callV rfl rfl rfl rfl rfl Bod.h (Sv_ff c2 (refInts_sv hb1.1 hb2.1 hbl)) ?_)
    refine g_n ?_; refine z_p ?_
    refine Wp_end (Stl_nil rfl) nb' ?_
    refine zz ?_
    exact Wc_ret (Lv_ret rfl ⟨false, rfl, hbad (fun e => c2 (by rw [e])), rfl⟩)
  refine zz ?_
  refine Wc_draw hmix [0, 0, 3, 7, 15, 0, 0, 96, 224, 480, 1023, 2047, 4095, 4095, 16383, 32767, 65535, 4095, 4095, 397311, 921599, 1970175, 4194303, 8388607, 16777215] [0, 1, 2, 3, 4, 5, 6, 7, 8, 9, 10, 11, 12, 13, 14, 15, 16, 17, 18, 19, 20, 21] (some 22) [([23, 24], none)] (by kernel_rfl) (by kernel_rfl) ?_
  refine z_m ?_; refine z_m ?_; refine z_i ?_; refine z_f ?_; refine z_l ?_; refine z_m ?_; refine z_m ?_; refine z_i ?_; refine z_f ?_; refine z_l ?_; refine Wp_pure rfl rfl rfl rfl rfl (fun _ => A_ff (fun x => x c1) (A_neq rfl rfl)) ?_; refine z_m ?_; refine g_m ?_; refine g_m ?_; refine g_i ?_; refine g_f ?_; refine g_l ?_; refine g_m ?_; refine g_m ?_; refine g_i ?_; refine g_f ?_; refine g_l ?_
  refine Wp_eff [0, 1, 2, 3, 4, 5, 6, 7, 8, 9, 10, 11, 12, 13, 14, 15, 16, 17, 18, 19, 20, 21] (by kernel_rfl) rfl (Stl_nil rfl) rfl nb rfl (W1_callV rfl rfl rfl rfl rfl Bod.h (Sv_tt c2 (refInts_sv hb1.1 hb2.1 hbl)) ?_)
  refine g_n ?_; refine z_p ?_
  refine Wp_end (Stl_nil rfl) nb' ?_
  refine zz ?_
  refine ⟨i + 1, ?_, rfl, rfl, hi', by rw [take_succ hi', take_succ hi2, htk, lat_eq c1 c2], rfl, rfl, rfl, trivial⟩
  show l.length - (i + 1) < l.length - i; omega
end Go.Dw
/- W6: contracts: slices.Clone. -/
namespace Go.Dw
open Go Go.Dx Go.Proofs
set_option maxRecDepth 100000
theorem run_eq_nilSl {P : Program} {t el : TypeId} (hu : P.underlying t = some (.slice el)) (n : Nat) (w : World) : (Op.equalIn (n + 1) t (.slice none 0 0) (.slice none 0 0)).run P w = .ok true w := by
  simp only [Op.equalIn, Sem.run_bind, run_underlying hu, Result.andThen_ok, Sem.run_pure]
  rfl
section
variable {P : Program} {m : Mem} {h : Heap} {d : Option Tmp} {ty : TypeId} {pos : String} {af : Array Edge} {gu : Option (Nat × Bool)} {t tz el : TypeId} {x y : Operand}
theorem A_eqNilN (hu : P.underlying t = some (.slice el)) (hx : opk h m x = some (.slice none 0 0)) (hy : opk h m y = some (.slice none 0 0)) : Aop P ⟨d, .binOp .eql t x y tz, ty, pos, af, gu⟩ m h (.bool true) h :=
  A_bin hx hy rfl rfl rfl fun w => by
    have h2 : (eqGuard .eql t x y (.slice none 0 0) (.slice none 0 0)).run P w = .ok () w := rfl
    simp only [Sem.run_bind, h2, Result.andThen_ok]
    show (do pure (.bool (← Op.equalIn (9999 + 1) t (.slice none 0 0) (.slice none 0 0))) : Sem Value).run P w = _
    simp only [Sem.run_bind, run_eq_nilSl hu, Result.andThen_ok, Sem.run_pure]
theorem A_eqNilS {a : Addr} {n c : Nat} (hu : P.underlying t = some (.slice el)) (hx : opk h m x = some (.slice (some a) n c)) (hy : opk h m y = some (.slice none 0 0)) : Aop P ⟨d, .binOp .eql t x y tz, ty, pos, af, gu⟩ m h (.bool false) h :=
  Aop_of fun e hs => by
    show pBin P _ h e .eql t x y = _
    unfold pBin
    simp only [opk_opv hs hx, opk_opv hs hy]
    have : abinNil P .eql t (.slice (some a) n c) (.slice none 0 0) = some (.bool false) := by
      unfold abinNil
      rw [hu]
      rfl
    simp only [this]
end
theorem clone_sv {v : Value} {l : List Int} {h0 h : Heap} (hF : FreshSl h0 h v 3 1 (l.map i64) l.length) (hlen : l.length < 1000000) :
    Sv Tryz.prog 101 [v] h (RetP fun v' h' => FreshSl h h' v' 3 1 (l.map i64) l.length ∧ Ext h h') := by
  refine Sv_wf fun hw => ?_
  refine Sv_enter Tryz.func101 rfl (by rw [Tryz.ntmps101]; rfl) ?_; show Wc Tryz.prog ⟨101, 8, none⟩ _ _ _ _ _
  refine zz ?_
  obtain ⟨a, e1, _, hs⟩ := hF.srcAt
  rcases hF with ⟨e, e2, e3⟩ | ⟨b, sp, op, e, hg, hgl, hgn, hsp⟩
  · subst e
    rw [e2, e3]
    refine Wo_do rfl rfl rfl rfl (A_eqNilN Und.h rfl rfl) ?_
    refine zz ?_
    exact Wc_ret (Lv_ret rfl ⟨FreshSl.nil _ _ _ _, Ext.refl _⟩)
  · subst e
    cases e1
    refine Wo_do rfl rfl rfl rfl (A_eqNilS Und.h rfl rfl) ?_
    refine zz ?_
    refine Wo_bs rfl rfl Und.h Tsz.h Zr.h rfl rfl rfl rfl rfl fun h1 hE1 hW1 hg1 hx1 => ?_
    refine zz ?_
    refine Wo_appendF (by' := 8) (k := l.length) (n := 0) (l := l.map i64) hw hE1 rfl rfl rfl rfl rfl Und.h inferInstance rfl rfl (FreshSl.lit (n := 0) (sz := 1) (cs := []) hg1 rfl (Nat.le_refl _)) ((hs.ext hE1).src (dd := .slice 3) Und.h (by intro k; simp)) (by simp) (allOne_i64 _) (by omega) (by omega) fun v2 h2 hF2 hE2 hK2 hx2 hv2 => ?_
    refine zz ?_
    refine Wc_ret (Lv_ret rfl ⟨?_, hE2⟩)
    rw [List.nil_append, Nat.zero_add] at hF2
    exact hF2
end Go.Dw
/- W7: which reels are kept, with no program in sight: by risk, each that still fits. -/
namespace Go.Dw
open Go Go.Dx Go.Proofs Go.Mt
/-- Two orders of the same elements by the same strict order are one. -/
theorem perm_pw_eq {α : Type} {R : α → α → Prop} (ha : ∀ a b, R a b → ¬ R b a) : ∀ {l s : List α}, l.Perm s → l.Pairwise R → s.Pairwise R → l = s
  | [], s, hp, _, _ => (List.nil_perm.1 hp).symm
  | a :: l, [], hp, _, _ => absurd hp.symm (by intro h; exact absurd (List.nil_perm.1 h) (by simp))
  | a :: l, b :: s, hp, h1, h2 => by
    rw [List.pairwise_cons] at h1 h2
    have e : a = b := Classical.byContradiction fun hne => by
      have h3 : a ∈ s := (List.mem_cons.1 (hp.subset List.mem_cons_self)).resolve_left hne
      have h4 : b ∈ l := (List.mem_cons.1 (hp.symm.subset List.mem_cons_self)).resolve_left (fun e => hne e.symm)
      exact ha _ _ (h1.1 b h4) (h2.1 a h3)
    subst e
    rw [perm_pw_eq ha ((List.perm_cons a).1 hp) h1.2 h2.2]
theorem byRisk_eq {t : Task} {l s : List Nat} (hp : l.Perm s) (h1 : ByRisk t l) (h2 : ByRisk t s) : l = s :=
  perm_pw_eq (fun a b h g => by omega) hp h1 h2
abbrev fitN (t : Task) (s : List Nat) : Prop := Fit (adjB t fun _ => false) s
open Classical in
/-- Those of the kept ones without which a reel fits. -/
noncomputable def byN (t : Task) (kept : List Nat) (r : Nat) : List Nat := (List.range kept.length).flatMap fun i => if fitN t (kept.take i ++ kept.drop (i + 1) ++ [r]) then [kept.getD i 0] else []
open Classical in
/-- One more reel: kept, or late by those. -/
noncomputable def stepN (t : Task) (x : List Nat × List (Nat × List Nat)) (r : Nat) : List Nat × List (Nat × List Nat) := if fitN t (x.1 ++ [r]) then (x.1 ++ [r], x.2) else (x.1, x.2 ++ [(r, byN t x.1 r)])
noncomputable def goN (t : Task) (s : List Nat) : List Nat × List (Nat × List Nat) := s.foldl (stepN t) ([], [])
theorem goN_snoc (t : Task) (s : List Nat) (r : Nat) : goN t (s ++ [r]) = stepN t (goN t s) r := by
  unfold goN; rw [List.foldl_append]; rfl
theorem snoc_ind {α : Type} {p : List α → Prop} (h0 : p []) (h1 : ∀ s x, p s → p (s ++ [x])) (s : List α) : p s := by
  have key : ∀ n (s : List α), s.length = n → p s := by
    intro n
    induction n with
    | zero => intro s hs; rw [List.eq_nil_of_length_eq_zero hs]; exact h0
    | succ n ih =>
      intro s hs
      rcases List.eq_nil_or_concat s with rfl | ⟨s', x, e⟩
      · simp at hs
      · rw [List.concat_eq_append] at e
        subst e
        exact h1 s' x (ih s' (by simpa using hs))
  exact key _ s rfl
/-- Each reel is kept or late; what is kept fits. -/
theorem goN_mem (t : Task) : ∀ (s : List Nat) (r : Nat), r ∈ s ↔ r ∈ (goN t s).1 ∨ r ∈ (goN t s).2.map Prod.fst := by
  refine snoc_ind (fun r => by simp [goN]) (fun s x ih r => ?_)
  · rw [goN_snoc, List.mem_append, ih r]
    unfold stepN
    split
    · simp only [List.mem_append, List.mem_singleton]; exact ⟨fun h => by rcases h with (h | h) | h <;> simp [h], fun h => by rcases h with (h | h) | h <;> simp [h]⟩
    · simp only [List.map_append, List.map_cons, List.map_nil, List.mem_append, List.mem_singleton]; exact ⟨fun h => by rcases h with (h | h) | h <;> simp [h], fun h => by rcases h with h | h | h <;> simp [h]⟩
theorem goN_fit (t : Task) (s : List Nat) : fitN t (goN t s).1 := by
  refine snoc_ind (p := fun s => fitN t (goN t s).1) ⟨fun _ => (0, 0, 0), (fun _ h => nomatch h), (fun _ h => nomatch h)⟩ (fun s x ih => ?_) s
  · rw [goN_snoc]
    unfold stepN
    split
    · rename_i h; exact h
    · exact ih
theorem goN_sub (t : Task) (s : List Nat) : (goN t s).1.Sublist s := by
  refine snoc_ind (p := fun s => (goN t s).1.Sublist s) List.Sublist.slnil (fun s x ih => ?_) s
  · rw [goN_snoc]
    unfold stepN
    split
    · exact ih.append (List.Sublist.refl _)
    · exact ih.trans (List.sublist_append_left _ _)
end Go.Dw
/- W9: the turns of a plan, with no program in sight: by places that are barred, and by counts that are lowered. -/
namespace Go.Dw
open Go Go.Dx Go.Proofs Go.Mt
/-! ### matchings by cells -/
theorem fit_map {P Q : Type} {adj : Nat → P → Prop} {adj' : Nat → Q → Prop} {K : List Nat} (f : Q → P) (g : P → Q) (h : ∀ r q, adj' r q ↔ adj r (f q)) (hfg : ∀ r p, adj r p → f (g p) = p) (hgf : ∀ q, g (f q) = q) : Fit adj' K ↔ Fit adj K := by
  constructor
  · rintro ⟨F, h1, h2⟩
    refine ⟨fun r => f (F r), fun r hr => (h r _).1 (h1 r hr), fun r hr s hs e => h2 r hr s hs ?_⟩
    rw [← hgf (F r), ← hgf (F s)]; exact congrArg g e
  · rintro ⟨F, h1, h2⟩
    refine ⟨fun r => g (F r), fun r hr => (h r _).2 ?_, fun r hr s hs e => h2 r hr s hs ?_⟩
    · rw [hfg r _ (h1 r hr)]; exact h1 r hr
    · rw [← hfg r _ (h1 r hr), ← hfg s _ (h1 s hs)]; exact congrArg f e
theorem fitC_mono {C : Type} [DecidableEq C] {adj adj' : Nat → C → Prop} {cap cap' : C → Nat} {K : List Nat} (ha : ∀ r ∈ K, ∀ c, adj r c → adj' r c) (hc : ∀ r ∈ K, ∀ c, adj r c → cap c ≤ cap' c) (h : FitC adj cap K) : FitC adj' cap' K := by
  obtain ⟨f, h1, h2⟩ := h
  refine ⟨f, fun r hr => ha r hr _ (h1 r hr), fun c => ?_⟩
  by_cases he : ∃ r ∈ K, f r = c
  · obtain ⟨r, hr, rfl⟩ := he
    exact Nat.le_trans (h2 _) (hc r hr _ (h1 r hr))
  · have : (K.filter fun r => decide (f r = c)) = [] := List.filter_eq_nil_iff.2 fun r hr => by simpa using fun e => he ⟨r, hr, e⟩
    rw [this]; exact Nat.zero_le _
/-- Whether a reel can use a machine on a day. -/
def adjM (t : Task) (r : Nat) (c : Int × Int) : Prop := c.1 ∈ (reelAt t (r : Nat)).machines ∧ (reelAt t (r : Nat)).ready ≤ c.2 ∧ c.2 ≤ (reelAt t (r : Nat)).due
/-- The numbers of places that are left there. -/
def freeN (t : Task) (bar : Pl → Bool) (c : Int × Int) : List Nat := (List.range (capT t c.1 c.2).toNat).filter fun n => !bar (c.1, c.2, (n : Int))
theorem freeN_nodup (t : Task) (bar : Pl → Bool) (c : Int × Int) : (freeN t bar c).Nodup := List.nodup_range.sublist List.filter_sublist
theorem mem_freeN {t : Task} {bar : Pl → Bool} {c : Int × Int} {n : Nat} : n ∈ freeN t bar c ↔ n < (capT t c.1 c.2).toNat ∧ bar (c.1, c.2, (n : Int)) = false := by simp [freeN]
theorem fit_cells {t : Task} {bar : Pl → Bool} {K : List Nat} (hK : K.Nodup) : Fit (adjB t bar) K ↔ FitC (adjM t) (fun c => (freeN t bar c).length) K := by
  rw [← fit_iff (adj := fun r (q : (Int × Int) × Nat) => adjB t bar r (q.1.1, q.1.2, (q.2 : Int))) (fun c => freeN_nodup t bar c) hK]
  · refine (fit_map (fun q : (Int × Int) × Nat => ((q.1.1, q.1.2, (q.2 : Int)) : Pl)) (fun p : Pl => ((p.1, p.2.1), p.2.2.toNat)) (fun _ _ => Iff.rfl) (fun r p hp => ?_) (fun q => ?_)).symm
    · obtain ⟨m, d, n⟩ := p
      have h := (mem_placesL.1 hp.1).2.2.2
      show (m, d, ((n.toNat : Nat) : Int)) = (m, d, n)
      rw [Int.toNat_of_nonneg h.1]
    · rfl
  · rintro r _ ⟨m, d⟩ n
    rw [mem_freeN]
    simp only [adjB, mem_placesL, adjM]
    constructor
    · rintro ⟨⟨h1, h2, h3, h4, h5⟩, h6⟩; exact ⟨⟨h1, h2, h3⟩, by omega, h6⟩
    · rintro ⟨⟨h1, h2, h3⟩, h4, h6⟩; exact ⟨⟨h1, h2, h3, by omega, by omega⟩, h6⟩
theorem free_none (t : Task) (c : Int × Int) : (freeN t (fun _ => false) c).length = (capT t c.1 c.2).toNat := by
  unfold freeN
  show ((List.range (capT t c.1 c.2).toNat).filter fun _ => true).length = _
  rw [List.filter_eq_self.2 fun _ _ => rfl, List.length_range]
theorem fitN_cells {t : Task} {K : List Nat} (hK : K.Nodup) : fitN t K ↔ FitC (adjM t) (fun c => (capT t c.1 c.2).toNat) K := by
  rw [fitN, fit_cells hK]
  simp only [free_none]
/-! ### one place less -/
def lowP (d : Nat) (x : Mach) : Mach := ⟨x.name, x.places.modify d (· - 1)⟩
def low (u : Task) (m d : Nat) : Task := ⟨u.first, u.days, u.machines.modify m (lowP d), u.reels⟩
/-- The count of places, by numbers from 0 on. -/
def capM (u : Task) (m d : Nat) : Int := (u.machines.getD m noMach).places.getD d 0
theorem getD_modify {α : Type} {l : List α} {i j : Nat} {f : α → α} {x : α} : (l.modify i f).getD j x = if i = j ∧ j < l.length then f (l.getD j x) else l.getD j x := by
  simp only [List.getD_eq_getElem?_getD, List.getElem?_modify]
  by_cases h : i = j
  · subst h
    by_cases hl : i < l.length
    · simp [hl]
    · simp [hl]
  · simp [h]
theorem capM_low {u : Task} {m d m' d' : Nat} (hm : m < u.machines.length) (hd : d < (u.machines.getD m noMach).places.length) : capM (low u m d) m' d' = if m' = m ∧ d' = d then capM u m d - 1 else capM u m' d' := by
  unfold capM low
  rw [getD_modify]
  by_cases h : m' = m
  · subst h
    rw [if_pos ⟨rfl, hm⟩]
    show ((u.machines.getD m' noMach).places.modify d (· - 1)).getD d' 0 = _
    rw [getD_modify]
    by_cases h2 : d' = d
    · subst h2; rw [if_pos ⟨rfl, hd⟩, if_pos ⟨rfl, rfl⟩]
    · rw [if_neg (fun e => h2 e.1.symm), if_neg (fun e => h2 e.2)]
  · rw [if_neg (fun e => h e.1.symm), if_neg (fun e => h e.1)]
theorem low_len (u : Task) (m d : Nat) : (low u m d).machines.length = u.machines.length := by simp [low]
/-- A workshop whose counts were lowered. -/
structure Lowd (t u : Task) : Prop where
  first : u.first = t.first
  days : u.days = t.days
  reels : u.reels = t.reels
  len : u.machines.length = t.machines.length
  pl : ∀ m, m < t.machines.length → ((u.machines.getD m noMach).places.length : Int) = t.days
  cap : ∀ m d, 0 ≤ capM u m d ∧ capM u m d ≤ 20
theorem getD_mem {α : Type} {l : List α} {i : Nat} {x : α} (h : i < l.length) : l.getD i x ∈ l := by rw [List.getD_eq_getElem?_getD, List.getElem?_eq_getElem h]; exact List.getElem_mem h
theorem getD_out {α : Type} {l : List α} {i : Nat} {x : α} (h : l.length ≤ i) : l.getD i x = x := by rw [List.getD_eq_getElem?_getD, List.getElem?_eq_none h]; rfl
theorem Lowd.refl {t : Task} (hV : Valid t) : Lowd t t := by
  refine ⟨rfl, rfl, rfl, rfl, fun m hm => (hV.ms _ (getD_mem hm)).1, fun m d => ?_⟩
  unfold capM
  rcases Nat.lt_or_ge m t.machines.length with hm | hm
  · rcases Nat.lt_or_ge d (t.machines.getD m noMach).places.length with hd | hd
    · exact (hV.ms _ (getD_mem hm)).2 _ (getD_mem hd)
    · rw [getD_out hd]; omega
  · rw [getD_out hm]; simp [noMach]
theorem Lowd.low {t u : Task} (h : Lowd t u) (hV : Valid t) {m d : Nat} (hm : m < t.machines.length) (hd : d < t.days.toNat) (hc : capM u m d ≠ 0) : Lowd t (low u m d) := by
  have hp := h.pl m hm
  have hm' : m < u.machines.length := by rw [h.len]; exact hm
  have hd' : d < (u.machines.getD m noMach).places.length := by omega
  refine ⟨h.first, h.days, h.reels, by rw [low_len, h.len], fun m' hm2 => ?_, fun m' d' => ?_⟩
  · show (((u.machines.modify m (lowP d)).getD m' noMach).places.length : Int) = _
    rw [getD_modify]
    split
    · show ((((u.machines.getD m' noMach).places.modify d (· - 1)).length : Nat) : Int) = _
      rw [List.length_modify]; exact h.pl m' hm2
    · exact h.pl m' hm2
  · rw [capM_low hm' hd']
    have h1 := h.cap m d
    have h2 := h.cap m' d'
    split <;> omega
theorem Lowd.valid {t u : Task} (h : Lowd t u) (hV : Valid t) : Valid u := by
  refine ⟨by rw [h.first]; exact hV.f0, by rw [h.first]; exact hV.f1, by rw [h.days]; exact hV.d0, by rw [h.days]; exact hV.d1, by rw [h.first, h.days]; exact hV.last, by rw [h.len]; exact hV.m0, by rw [h.len]; exact hV.m1, by rw [h.reels]; exact hV.r1, fun x hx => ?_, fun r hr => ?_⟩
  · obtain ⟨m, hm, rfl⟩ := List.getElem_of_mem hx
    have e : u.machines.getD m noMach = u.machines[m] := by rw [List.getD_eq_getElem?_getD, List.getElem?_eq_getElem hm]; rfl
    have h1 := h.pl m (by rw [← h.len]; exact hm)
    rw [e] at h1
    refine ⟨by rw [h.days]; exact h1, fun n hn => ?_⟩
    obtain ⟨d, hd, rfl⟩ := List.getElem_of_mem hn
    have h2 := h.cap m d
    unfold capM at h2
    rw [e] at h2
    have e2 : u.machines[m].places.getD d 0 = u.machines[m].places[d] := by rw [List.getD_eq_getElem?_getD, List.getElem?_eq_getElem hd]; rfl
    rw [e2] at h2; exact h2
  · rw [h.reels] at hr
    rw [h.len, h.first, h.days]
    exact hV.rs r hr
theorem Lowd.reelAt {t u : Task} (h : Lowd t u) (r : Int) : reelAt u r = reelAt t r := by unfold Dw.reelAt; rw [h.reels]
theorem Lowd.canB {t u : Task} (h : Lowd t u) (r m d : Int) : canB u r m d = canB t r m d := by unfold Dw.canB; rw [h.reelAt, h.first]
theorem Lowd.adjM {t u : Task} (h : Lowd t u) (r : Nat) (c : Int × Int) : adjM u r c ↔ adjM t r c := by unfold Dw.adjM; rw [h.reelAt]
theorem capT_M {u : Task} {m d : Nat} : capT u m (u.first + d) = capM u m d := by
  unfold capT capM
  rw [Int.toNat_natCast, show (u.first + (d : Int) - u.first).toNat = d by omega]
/-! ### turns by counts -/
/-- The machines and days, by days. -/
def cellsT (t : Task) : List (Nat × Nat) := (List.range t.days.toNat).flatMap fun d => (List.range t.machines.length).map fun m => (d, m)
theorem mem_cellsT {t : Task} {c : Nat × Nat} : c ∈ cellsT t ↔ c.1 < t.days.toNat ∧ c.2 < t.machines.length := by
  obtain ⟨d, m⟩ := c
  simp [cellsT]
def ltC (a b : Nat × Nat) : Prop := a.1 < b.1 ∨ (a.1 = b.1 ∧ a.2 < b.2)
theorem cellsT_pw (t : Task) : (cellsT t).Pairwise ltC := by
  unfold cellsT
  rw [List.pairwise_flatMap]
  refine ⟨fun d _ => ?_, List.pairwise_lt_range.imp fun hab x hx y hy => ?_⟩
  · rw [List.pairwise_map]; exact List.pairwise_lt_range.imp fun h => .inr ⟨rfl, h⟩
  · obtain ⟨_, _, rfl⟩ := List.mem_map.1 hx
    obtain ⟨_, _, rfl⟩ := List.mem_map.1 hy
    exact .inl hab
theorem find_sorted {α : Type} {R : α → α → Prop} {P : α → Bool} {a : α} : ∀ {l : List α}, l.Pairwise R → a ∈ l → P a = true → (∀ b ∈ l, R b a → P b = false) → l.find? P = some a
  | b :: l, hp, ha, hP, hb => by
    rw [List.pairwise_cons] at hp
    rcases List.mem_cons.1 ha with e | g
    · rw [← e]; simp [hP]
    · rw [List.find?_cons_of_neg (by rw [hb b List.mem_cons_self (hp.1 a g)]; simp)]
      exact find_sorted hp.2 g hP fun x hx => hb x (List.mem_cons_of_mem _ hx)
open Classical in
noncomputable def okC (u : Task) (r : Nat) (rest : List Nat) (c : Nat × Nat) : Bool := decide (canB u r c.2 c.1 = true ∧ capM u c.2 c.1 ≠ 0 ∧ fitN (low u c.2 c.1) rest)
open Classical in
theorem okC_iff {u : Task} {r : Nat} {rest : List Nat} {c : Nat × Nat} : okC u r rest c = true ↔ canB u r c.2 c.1 = true ∧ capM u c.2 c.1 ≠ 0 ∧ fitN (low u c.2 c.1) rest := decide_eq_true_iff
noncomputable def turnC (u : Task) (r : Nat) (rest : List Nat) : Option (Nat × Nat) := (cellsT u).find? (okC u r rest)
theorem turnC_some {u : Task} {r : Nat} {rest : List Nat} {d m : Nat} (hd : d < u.days.toNat) (hm : m < u.machines.length) (hk : okC u r rest (d, m) = true) (hb : ∀ d' m', d' < u.days.toNat → m' < u.machines.length → ltC (d', m') (d, m) → okC u r rest (d', m') = false) : turnC u r rest = some (d, m) :=
  find_sorted (cellsT_pw u) (mem_cellsT.2 ⟨hd, hm⟩) hk fun b hb' hl => hb b.1 b.2 (mem_cellsT.1 hb').1 (mem_cellsT.1 hb').2 hl
theorem turnC_none {u : Task} {r : Nat} {rest : List Nat} (hb : ∀ d' m', d' < u.days.toNat → m' < u.machines.length → okC u r rest (d', m') = false) : turnC u r rest = none :=
  List.find?_eq_none.2 fun b hb' => by rw [hb b.1 b.2 (mem_cellsT.1 hb').1 (mem_cellsT.1 hb').2]; simp
noncomputable def turnsG (u : Task) : List Nat → List Turn
  | [] => []
  | r :: rest => match turnC u r rest with
    | none => turnsG u rest
    | some c => ⟨r, c.2, u.first + c.1⟩ :: turnsG (low u c.2 c.1) rest
/-! ### turns by places -/
open Classical in
noncomputable def barL (G : List Pl) (p : Pl) : Bool := decide (p ∈ G)
open Classical in
noncomputable def okP (t : Task) (G : List Pl) (rest : List Nat) (p : Pl) : Bool := decide (p ∉ G ∧ Fit (adjB t (barL (p :: G))) rest)
open Classical in
theorem okP_iff {t : Task} {G : List Pl} {rest : List Nat} {p : Pl} : okP t G rest p = true ↔ p ∉ G ∧ Fit (adjB t (barL (p :: G))) rest := decide_eq_true_iff
open Classical in
theorem barL_iff {G : List Pl} {p : Pl} : barL G p = true ↔ p ∈ G := decide_eq_true_iff
open Classical in
theorem barL_ff {G : List Pl} {p : Pl} : barL G p = false ↔ p ∉ G := decide_eq_false_iff_not
noncomputable def turnP (t : Task) (G : List Pl) (r : Nat) (rest : List Nat) : Option Pl := (placesL t (r : Nat)).find? (okP t G rest)
noncomputable def turnsP (t : Task) (G : List Pl) : List Nat → List Turn
  | [] => []
  | r :: rest => match turnP t G r rest with
    | none => turnsP t G rest
    | some p => ⟨r, p.1, p.2.1⟩ :: turnsP t (p :: G) rest
/-- What is barred here is lowered there. -/
structure BarLow (t u : Task) (G : List Pl) : Prop where
  low : Lowd t u
  eq : ∀ m d, m < t.machines.length → d < t.days.toNat → capM u m d = (freeN t (barL G) ((m : Int), t.first + (d : Int))).length
theorem BarLow.start {t : Task} (hV : Valid t) : BarLow t t [] := by
  refine ⟨Lowd.refl hV, fun m d hm hd => ?_⟩
  have e : barL [] = fun _ => false := by funext p; exact barL_ff.2 (by simp)
  rw [e, free_none]
  show _ = ((capT t (m : Int) (t.first + (d : Int))).toNat : Int)
  rw [capT_M]
  have := ((Lowd.refl hV).cap m d).1
  omega
/-- A reel's cell, by numbers. -/
theorem adjM_cell {t : Task} (hV : Valid t) {r : Nat} (hr : r < t.reels.length) {m d : Int} (h : adjM t r (m, d)) : ∃ m' d' : Nat, m = m' ∧ d = t.first + d' ∧ m' < t.machines.length ∧ d' < t.days.toNat := by
  obtain ⟨h1, h2, h3⟩ := h
  rw [reelAt_nat hr] at h1 h2 h3
  obtain ⟨_, g1, _, g2, _⟩ := hV.rs _ (List.getElem_mem hr)
  have := g1 m h1
  exact ⟨m.toNat, (d - t.first).toNat, by omega, by omega, by omega, by omega⟩
theorem BarLow.fit {t u : Task} {G : List Pl} (h : BarLow t u G) (hV : Valid t) {K : List Nat} (hK : K.Nodup) (hr : ∀ r ∈ K, r < t.reels.length) : Fit (adjB t (barL G)) K ↔ fitN u K := by
  rw [fitN_cells hK, fit_cells hK]
  have key : ∀ r ∈ K, ∀ c, adjM t r c → (freeN t (barL G) c).length = (capT u c.1 c.2).toNat := by
    rintro r hrK ⟨m, d⟩ hc
    obtain ⟨m', d', rfl, rfl, hm, hd⟩ := adjM_cell hV (hr r hrK) hc
    have h1 := h.eq m' d' hm hd
    have h2 : capT u (m' : Int) (t.first + (d' : Int)) = capM u m' d' := by rw [← h.low.first]; exact capT_M
    show _ = (capT u (m' : Int) (t.first + (d' : Int))).toNat
    rw [h2, h1]; rfl
  constructor
  · exact fitC_mono (fun r _ c hc => (h.low.adjM r c).2 hc) (fun r hrK c hc => Nat.le_of_eq (key r hrK c hc))
  · exact fitC_mono (fun r _ c hc => (h.low.adjM r c).1 hc) (fun r hrK c hc => Nat.le_of_eq (key r hrK c ((h.low.adjM r c).1 hc)).symm)
theorem filter_rem {l : List Nat} {p : Nat → Bool} {n : Nat} (hd : l.Nodup) (hn : n ∈ l) (hp : p n = true) : (l.filter fun x => p x && decide (x ≠ n)).length + 1 = (l.filter p).length := by
  induction l with
  | nil => cases hn
  | cons a l ih =>
    rw [List.nodup_cons] at hd
    rcases List.mem_cons.1 hn with e | g
    · subst e
      have e1 : (l.filter fun x => p x && decide (x ≠ n)) = l.filter p := List.filter_congr fun x hx => by
        have : x ≠ n := fun e => hd.1 (e ▸ hx)
        simp [this]
      rw [List.filter_cons, List.filter_cons, if_pos hp, if_neg (by simp), e1]; rfl
    · have hne : a ≠ n := fun e => hd.1 (e ▸ g)
      have := ih hd.2 g
      simp only [ne_eq] at this ⊢
      rw [List.filter_cons, List.filter_cons]
      by_cases hpa : p a = true
      · simp only [hpa, hne, Bool.true_and, not_false_eq_true, decide_true, if_true, List.length_cons]; omega
      · simp only [hpa, Bool.false_and, if_false, Bool.false_eq_true]; exact this
/-- One place more is barred, one less is counted. -/
theorem BarLow.step {t u : Task} {G : List Pl} (h : BarLow t u G) (hV : Valid t) {m d : Nat} {n : Int} (hm : m < t.machines.length) (hd : d < t.days.toNat) (hn0 : 0 ≤ n) (hn : n < capT t m (t.first + (d : Int))) (hG : (((m : Int), t.first + (d : Int), n) : Pl) ∉ G) : BarLow t (Dw.low u m d) (((m : Int), t.first + (d : Int), n) :: G) := by
  have hmem : n.toNat ∈ freeN t (barL G) ((m : Int), t.first + (d : Int)) := mem_freeN.2 ⟨by show n.toNat < (capT t m (t.first + (d : Int))).toNat; omega, by
    show barL G ((m : Int), t.first + (d : Int), ((n.toNat : Nat) : Int)) = false
    rw [Int.toNat_of_nonneg hn0]; exact barL_ff.2 hG⟩
  have h1 := h.eq m d hm hd
  have hpos : 0 < (freeN t (barL G) ((m : Int), t.first + (d : Int))).length := List.length_pos_of_mem hmem
  have hm' : m < u.machines.length := by rw [h.low.len]; exact hm
  have hd' : d < (u.machines.getD m noMach).places.length := by have := h.low.pl m hm; omega
  refine ⟨h.low.low hV hm hd (by omega), fun m' d' hm2 hd2 => ?_⟩
  rw [capM_low hm' hd']
  by_cases hc : m' = m ∧ d' = d
  · obtain ⟨rfl, rfl⟩ := hc
    rw [if_pos ⟨rfl, rfl⟩, h1]
    have e := filter_rem (p := fun k => !barL G ((m' : Int), t.first + (d' : Int), (k : Int))) List.nodup_range (mem_freeN.1 hmem |>.1 |> List.mem_range.2) (by
      have := (mem_freeN.1 hmem).2
      simpa using this)
    have e2 : freeN t (barL (((m' : Int), t.first + (d' : Int), n) :: G)) ((m' : Int), t.first + (d' : Int)) = (List.range (capT t m' (t.first + (d' : Int))).toNat).filter fun (k : Nat) => (!barL G ((m' : Int), t.first + (d' : Int), (k : Int))) && decide (k ≠ n.toNat) := by
      refine List.filter_congr fun k _ => ?_
      show (!barL (((m' : Int), t.first + (d' : Int), n) :: G) ((m' : Int), t.first + (d' : Int), (k : Int))) = _
      have e3 : ((m' : Int), t.first + (d' : Int), (k : Int)) ∈ (((m' : Int), t.first + (d' : Int), n) : Pl) :: G ↔ k = n.toNat ∨ ((m' : Int), t.first + (d' : Int), (k : Int)) ∈ G := by
        rw [List.mem_cons]
        refine or_congr ?_ Iff.rfl
        simp only [Prod.mk.injEq, true_and]
        omega
      rw [Bool.eq_iff_iff, Bool.not_eq_true', Bool.and_eq_true, Bool.not_eq_true', barL_ff, barL_ff, e3, decide_eq_true_eq, not_or]
      exact and_comm
    rw [e2]
    have e' : ((List.range (capT t m' (t.first + (d' : Int))).toNat).filter fun (k : Nat) => (!barL G ((m' : Int), t.first + (d' : Int), (k : Int))) && decide (k ≠ n.toNat)).length + 1 = (freeN t (barL G) ((m' : Int), t.first + (d' : Int))).length := e
    omega
  · rw [if_neg hc, h.eq m' d' hm2 hd2]
    congr 2
    refine List.filter_congr fun k _ => ?_
    show (!barL G ((m' : Int), t.first + (d' : Int), (k : Int))) = !barL (((m : Int), t.first + (d : Int), n) :: G) ((m' : Int), t.first + (d' : Int), (k : Int))
    congr 1
    rw [Bool.eq_iff_iff, barL_iff, barL_iff, List.mem_cons]
    refine ⟨.inr, fun x => x.resolve_left fun e => hc ?_⟩
    simp only [Prod.mk.injEq] at e
    omega
/-- The order of the places. -/
def ltP (a b : Pl) : Prop := a.2.1 < b.2.1 ∨ (a.2.1 = b.2.1 ∧ (a.1 < b.1 ∨ (a.1 = b.1 ∧ a.2.2 < b.2.2)))
theorem pw_desc : ∀ {l : List Int}, desc l = false → l.Pairwise (· < ·)
  | [], _ => .nil
  | [_], _ => List.pairwise_singleton _ _
  | a :: b :: l, h => by
    unfold desc at h
    rw [Bool.or_eq_false_iff] at h
    have h1 := of_decide_eq_false h.1
    have h2 := pw_desc h.2
    refine List.pairwise_cons.2 ⟨fun x hx => ?_, h2⟩
    rcases List.mem_cons.1 hx with e | g
    · omega
    · have := (List.pairwise_cons.1 h2).1 x g; omega
theorem placesL_pw {t : Task} {r : Int} (hd : desc (reelAt t r).machines = false) : (placesL t r).Pairwise ltP := by
  unfold placesL
  rw [List.pairwise_flatMap]
  refine ⟨fun k _ => ?_, List.pairwise_lt_range.imp fun {a b} hab x hx y hy => ?_⟩
  · unfold dayP
    rw [List.pairwise_flatMap]
    refine ⟨fun m _ => ?_, (pw_desc hd).imp fun hab x hx y hy => ?_⟩
    · unfold machP
      rw [List.pairwise_map]
      exact List.pairwise_lt_range.imp fun {a b} hab => .inr ⟨rfl, .inr ⟨rfl, by show (a : Int) < (b : Int); omega⟩⟩
    · obtain ⟨_, _, rfl⟩ := List.mem_map.1 hx
      obtain ⟨_, _, rfl⟩ := List.mem_map.1 hy
      exact .inr ⟨rfl, .inl hab⟩
  · obtain ⟨m, _, hx⟩ := List.mem_flatMap.1 hx
    obtain ⟨m', _, hy⟩ := List.mem_flatMap.1 hy
    obtain ⟨_, _, rfl⟩ := List.mem_map.1 hx
    obtain ⟨_, _, rfl⟩ := List.mem_map.1 hy
    exact .inl (by show (reelAt t r).ready + (a : Int) < (reelAt t r).ready + (b : Int); omega)
theorem pw_before {α : Type} {R : α → α → Prop} {P : α → Bool} {l : List α} {a : α} (ha : ∀ x y, R x y → ¬ R y x) (hp : l.Pairwise R) (hf : l.find? P = some a) : ∀ b ∈ l, R b a → P b = false := by
  intro b hb hR
  obtain ⟨_, l1, l2, e, h1⟩ := List.find?_eq_some_iff_append.1 hf
  rw [e] at hb hp
  rcases List.mem_append.1 hb with g | g
  · have := h1 b g; simpa using this
  · rcases List.mem_cons.1 g with e2 | g2
    · subst e2; exact absurd hR (ha _ _ hR)
    · have := (List.pairwise_cons.1 (List.pairwise_append.1 hp).2.1).1 b g2
      exact absurd hR (ha _ _ this)
/-- The place that is found, and the cell. -/
theorem turn_eq1 {t u : Task} {G : List Pl} (h : BarLow t u G) (hV : Valid t) {r : Nat} (hr : r < t.reels.length) {rest : List Nat} (hK : rest.Nodup) (hR : ∀ x ∈ rest, x < t.reels.length) :
    (turnP t G r rest = none ∧ turnC u r rest = none) ∨ ∃ (d m : Nat) (n : Int), d < t.days.toNat ∧ m < t.machines.length ∧ 0 ≤ n ∧ n < capT t m (t.first + (d : Int)) ∧ (((m : Int), t.first + (d : Int), n) : Pl) ∉ G ∧ canB t r m d = true ∧ turnP t G r rest = some ((m : Int), t.first + (d : Int), n) ∧ turnC u r rest = some (d, m) := by
  have hrs := hV.rs _ (List.getElem_mem hr)
  rw [← reelAt_nat hr] at hrs
  have hpw := placesL_pw (t := t) (r := (r : Nat)) hrs.2.2.1
  -- a place that will do, of its cell
  have toC : ∀ (m d : Nat) (n : Int), m < t.machines.length → d < t.days.toNat → ((m : Int), t.first + (d : Int), n) ∈ placesL t (r : Nat) → okP t G rest ((m : Int), t.first + (d : Int), n) = true → okC u r rest (d, m) = true := by
    intro m d n hm hd hp hk
    obtain ⟨h1, h2⟩ := okP_iff.1 hk
    obtain ⟨g1, g2, g3, g4, g5⟩ := mem_placesL.1 hp
    have hs := h.step hV hm hd g4 g5 h1
    refine okC_iff.2 ⟨?_, ?_, (hs.fit hV hK hR).1 h2⟩
    · rw [h.low.canB]; exact decide_eq_true ⟨g1, g2, g3⟩
    · have := hs.eq m d hm hd
      rw [capM_low (by rw [h.low.len]; exact hm) (by have := h.low.pl m hm; omega), if_pos ⟨rfl, rfl⟩] at this
      show capM u m d ≠ 0
      omega
  have toP : ∀ (m d : Nat), m < t.machines.length → d < t.days.toNat → okC u r rest (d, m) = true → ∃ n : Int, ((m : Int), t.first + (d : Int), n) ∈ placesL t (r : Nat) ∧ okP t G rest ((m : Int), t.first + (d : Int), n) = true := by
    intro m d hm hd hk
    obtain ⟨h1, h2, h3⟩ := okC_iff.1 hk
    rw [h.low.canB] at h1
    obtain ⟨c1, c2, c3⟩ := of_decide_eq_true h1
    have he := h.eq m d hm hd
    have hne : freeN t (barL G) ((m : Int), t.first + (d : Int)) ≠ [] := fun e => by
      rw [e] at he; exact h2 he
    obtain ⟨n, hn⟩ := List.exists_mem_of_ne_nil _ hne
    obtain ⟨n1, n2⟩ := mem_freeN.1 hn
    have n1' : (n : Int) < capT t m (t.first + (d : Int)) := by
      have : n < (capT t m (t.first + (d : Int))).toNat := n1
      omega
    have n2' : (((m : Int), t.first + (d : Int), (n : Int)) : Pl) ∉ G := barL_ff.1 n2
    refine ⟨n, mem_placesL.2 ⟨c1, c2, c3, by omega, n1'⟩, okP_iff.2 ⟨n2', ?_⟩⟩
    exact ((h.step hV hm hd (by omega) n1' n2').fit hV hK hR).2 h3
  have hlen : u.days = t.days ∧ u.machines.length = t.machines.length := ⟨h.low.days, h.low.len⟩
  cases hf : turnP t G r rest with
  | none =>
    refine .inl ⟨rfl, turnC_none fun d' m' hd' hm' => ?_⟩
    rw [hlen.1] at hd'
    rw [hlen.2] at hm'
    cases hk : okC u r rest (d', m') with
    | false => rfl
    | true =>
      obtain ⟨n, h1, h2⟩ := toP m' d' hm' hd' hk
      exact absurd h2 (by simpa using List.find?_eq_none.1 hf _ h1)
  | some p =>
    obtain ⟨m0, d0, n⟩ := p
    have hmem := List.mem_of_find?_eq_some hf
    have hok := List.find?_some hf
    obtain ⟨g1, g2, g3, g4, g5⟩ := mem_placesL.1 hmem
    obtain ⟨m, d, rfl, rfl, hm, hd⟩ := adjM_cell hV hr (m := m0) (d := d0) ⟨g1, g2, g3⟩
    refine .inr ⟨d, m, n, hd, hm, g4, g5, (okP_iff.1 hok).1, decide_eq_true ⟨g1, g2, g3⟩, rfl, ?_⟩
    refine turnC_some (by rw [hlen.1]; exact hd) (by rw [hlen.2]; exact hm) (toC m d n hm hd hmem hok) fun d' m' hd' hm' hl => ?_
    rw [hlen.1] at hd'
    rw [hlen.2] at hm'
    cases hk : okC u r rest (d', m') with
    | false => rfl
    | true =>
      obtain ⟨n', h1, h2⟩ := toP m' d' hm' hd' hk
      have := pw_before (R := ltP) (fun x y a b => by unfold ltP at a b; omega) hpw hf _ h1 (by
        unfold ltP
        unfold ltC at hl
        simp only at hl ⊢
        omega)
      rw [h2] at this; cases this
theorem turns_eq {t : Task} (hV : Valid t) : ∀ {l : List Nat} {u : Task} {G : List Pl}, BarLow t u G → l.Nodup → (∀ x ∈ l, x < t.reels.length) → turnsP t G l = turnsG u l
  | [], _, _, _, _, _ => rfl
  | r :: rest, u, G, h, hn, hR => by
    rw [List.nodup_cons] at hn
    have hR' := fun x hx => hR x (List.mem_cons_of_mem _ hx)
    unfold turnsP turnsG
    rcases turn_eq1 h hV (hR r List.mem_cons_self) hn.2 hR' with ⟨h1, h2⟩ | ⟨d, m, n, hd, hm, hn0, hn1, hG, _, h1, h2⟩
    · rw [h1, h2]; exact turns_eq hV h hn.2 hR'
    · rw [h1, h2]
      show _ :: turnsP t _ rest = _ :: turnsG _ rest
      rw [turns_eq hV (h.step hV hm hd hn0 hn1 hG) hn.2 hR', h.low.first]
end Go.Dw
/- W10: what Plan answers, with no program in sight. -/
namespace Go.Dw
open Go Go.Dx Go.Proofs Go.Mt
theorem perm_le_eq : ∀ {l s : List Int}, l.Perm s → Sorted l → Sorted s → l = s
  | [], s, hp, _, _ => (List.nil_perm.1 hp).symm
  | a :: l, [], hp, _, _ => absurd hp.symm (by intro h; exact absurd (List.nil_perm.1 h) (by simp))
  | a :: l, b :: s, hp, h1, h2 => by
    unfold Sorted at h1 h2
    rw [List.pairwise_cons] at h1 h2
    have e : a = b := by
      have k1 : b ≤ a := by
        rcases List.mem_cons.1 (hp.subset List.mem_cons_self) with e | g
        · omega
        · exact h2.1 a g
      have k2 : a ≤ b := by
        rcases List.mem_cons.1 (hp.symm.subset List.mem_cons_self) with e | g
        · omega
        · exact h1.1 b g
      omega
    subst e
    rw [perm_le_eq ((List.perm_cons a).1 hp) h1.2 h2.2]
def sortI (l : List Int) : List Int := l.mergeSort fun a b => decide (a ≤ b)
theorem sortI_perm (l : List Int) : (sortI l).Perm l := List.mergeSort_perm _ _
theorem sortI_sorted (l : List Int) : Sorted (sortI l) := (List.pairwise_mergeSort (fun a b c h1 h2 => decide_eq_true (by have := of_decide_eq_true h1; have := of_decide_eq_true h2; omega)) (fun a b => by simp only [Bool.or_eq_true, decide_eq_true_eq]; omega) l).imp fun h => of_decide_eq_true h
theorem sortI_eq {l s : List Int} (hp : s.Perm l) (hs : Sorted s) : s = sortI l := perm_le_eq (hp.trans (sortI_perm l).symm) hs (sortI_sorted l)
theorem sortI_len (l : List Int) : (sortI l).length = l.length := (sortI_perm l).length_eq
theorem mem_sortI {l : List Int} {x : Int} : x ∈ sortI l ↔ x ∈ l := (sortI_perm l).mem_iff
theorem sortI_nodup {l : List Int} (h : l.Nodup) : (sortI l).Nodup := (sortI_perm l).nodup_iff.2 h
theorem sorted_lt {l : List Int} (h : Sorted l) (hn : l.Nodup) : l.Pairwise (· < ·) := (List.Pairwise.and h hn).imp fun ⟨h1, h2⟩ => by omega
/-- The reels by their risk. -/
def riskLe (t : Task) (a b : Nat) : Bool := decide (riskN t b < riskN t a ∨ (riskN t a = riskN t b ∧ a ≤ b))
def ordN (t : Task) : List Nat := (List.range t.reels.length).mergeSort (riskLe t)
theorem ordN_perm (t : Task) : (ordN t).Perm (List.range t.reels.length) := List.mergeSort_perm _ _
theorem ordN_nodup (t : Task) : (ordN t).Nodup := (ordN_perm t).nodup_iff.2 List.nodup_range
theorem mem_ordN {t : Task} {r : Nat} : r ∈ ordN t ↔ r < t.reels.length := (ordN_perm t).mem_iff.trans List.mem_range
theorem ordN_by (t : Task) : ByRisk t (ordN t) := by
  have h1 := List.pairwise_mergeSort (le := riskLe t) (fun a b c h1 h2 => decide_eq_true (by have := of_decide_eq_true h1; have := of_decide_eq_true h2; omega)) (fun a b => by simp only [riskLe, Bool.or_eq_true, decide_eq_true_eq]; omega) (List.range t.reels.length)
  exact (List.Pairwise.and h1 (ordN_nodup t)).imp fun ⟨h1, h2⟩ => by have := of_decide_eq_true h1; omega
theorem ord_eq {t : Task} {s : List Nat} (hp : s.Perm (List.range t.reels.length)) (hb : ByRisk t s) : s = ordN t := byRisk_eq (hp.trans (ordN_perm t).symm) hb (ordN_by t)
noncomputable abbrev goT (t : Task) : List Nat × List (Nat × List Nat) := goN t (ordN t)
abbrev ints (l : List Nat) : List Int := l.map fun (r : Nat) => (r : Int)
noncomputable def keptI (t : Task) : List Int := sortI (ints (goT t).1)
noncomputable def keptS (t : Task) : List Nat := natsL (keptI t)
noncomputable def byOf (t : Task) (r : Nat) : List Nat := ((goT t).2.lookup r).getD []
noncomputable def lateN (t : Task) : List Nat := (List.range t.reels.length).filter fun (r : Nat) => !decide ((r : Int) ∈ keptI t)
noncomputable def latOf (t : Task) (r : Nat) : Lat := ⟨(r : Int), sortI (ints (byOf t r))⟩
noncomputable def lateL (t : Task) : List Lat := (lateN t).map (latOf t)
/-- What Plan answers. -/
noncomputable def planS (t : Task) : List Turn × List Lat × Int := if errS t ≠ 0 then ([], [], errS t) else (turnsG t (keptS t), lateL t, 0)
theorem goT_sub (t : Task) : (goT t).1.Sublist (ordN t) := goN_sub t _
theorem goT_nodup (t : Task) : (goT t).1.Nodup := (ordN_nodup t).sublist (goT_sub t)
theorem goT_lt {t : Task} {r : Nat} (h : r ∈ (goT t).1) : r < t.reels.length := mem_ordN.1 ((goT_sub t).subset h)
theorem ints_nodup {l : List Nat} (h : l.Nodup) : (ints l).Nodup := map_nodup (fun a _ b _ e => by omega) h
theorem mem_ints {l : List Nat} {r : Nat} : (r : Int) ∈ ints l ↔ r ∈ l := by
  unfold ints
  rw [List.mem_map]
  exact ⟨fun ⟨a, ha, e⟩ => by have : a = r := by omega
                              exact this ▸ ha, fun h => ⟨r, h, rfl⟩⟩
theorem mem_keptI {t : Task} {r : Nat} : (r : Int) ∈ keptI t ↔ r ∈ (goT t).1 := mem_sortI.trans mem_ints
theorem keptI_nodup (t : Task) : (keptI t).Nodup := sortI_nodup (ints_nodup (goT_nodup t))
theorem keptI_in {t : Task} {x : Int} (h : x ∈ keptI t) : 0 ≤ x ∧ x < t.reels.length := by
  obtain ⟨r, hr, rfl⟩ := List.mem_map.1 (mem_sortI.1 h)
  have := goT_lt hr; omega
theorem keptI_len (t : Task) : (keptI t).length ≤ t.reels.length := by
  have h1 : (keptI t).length = (goT t).1.length := by rw [keptI, sortI_len]; exact List.length_map _
  have h2 := (goT_sub t).length_le
  rw [(ordN_perm t).length_eq, List.length_range] at h2
  omega
theorem keptS_nodup (t : Task) : (keptS t).Nodup := natsL_nodup (keptI_nodup t) fun _ h => (keptI_in h).1
theorem mem_keptS {t : Task} {r : Nat} : r ∈ keptS t ↔ r ∈ (goT t).1 := by
  rw [keptS, natsL, List.mem_map]
  constructor
  · rintro ⟨x, hx, rfl⟩
    have := keptI_in hx
    exact mem_keptI.1 (by rw [Int.toNat_of_nonneg this.1]; exact hx)
  · exact fun h => ⟨(r : Int), mem_keptI.2 h, Int.toNat_natCast r⟩
theorem keptS_lt {t : Task} {r : Nat} (h : r ∈ keptS t) : r < t.reels.length := goT_lt (mem_keptS.1 h)
/-- Late reels have keys of their own. -/
theorem goN_keys (t : Task) (s : List Nat) : ((goN t s).2.map Prod.fst).Sublist s := by
  refine snoc_ind (p := fun s => ((goN t s).2.map Prod.fst).Sublist s) List.Sublist.slnil (fun s x ih => ?_) s
  · rw [goN_snoc]
    unfold stepN
    split
    · exact ih.trans (List.sublist_append_left _ _)
    · rw [List.map_append]; exact ih.append (List.Sublist.refl _)
theorem lookup_mem {l : List (Nat × List Nat)} (hn : (l.map Prod.fst).Nodup) {p : Nat × List Nat} (hp : p ∈ l) : l.lookup p.1 = some p.2 := by
  induction l with
  | nil => cases hp
  | cons q l ih =>
    rw [List.map_cons, List.nodup_cons] at hn
    obtain ⟨a, b⟩ := q
    rcases List.mem_cons.1 hp with e | g
    · rw [e]; exact List.lookup_cons_self
    · have hne : (p.1 == a) = false := by
        simp only [beq_eq_false_iff_ne, ne_eq]
        rintro e
        exact hn.1 (List.mem_map.2 ⟨p, g, e⟩)
      rw [List.lookup_cons, hne]
      exact ih hn.2 g
theorem byOf_mem {t : Task} {p : Nat × List Nat} (hp : p ∈ (goT t).2) : byOf t p.1 = p.2 := by
  unfold byOf
  rw [lookup_mem ((ordN_nodup t).sublist (goN_keys t _)) hp]; rfl
theorem late_iff {t : Task} {r : Nat} : r ∈ lateN t ↔ r ∈ (goT t).2.map Prod.fst := by
  have hd : ∀ (s : List Nat), s.Nodup → ∀ r ∈ (goN t s).1, r ∉ (goN t s).2.map Prod.fst := by
    refine snoc_ind (fun _ _ h => nomatch h) (fun s x ih hn r hr => ?_)
    have hs := List.nodup_append.1 hn
    have hx : x ∉ s := fun h => hs.2.2 x h x (by simp) rfl
    rw [goN_snoc] at hr ⊢
    unfold stepN at hr ⊢
    split
    · rename_i hf
      rw [if_pos hf] at hr
      rcases List.mem_append.1 hr with g | g
      · exact ih hs.1 r g
      · rw [List.mem_singleton.1 g]; exact fun h => hx ((goN_keys t s).subset h)
    · rename_i hf
      rw [if_neg hf] at hr
      rw [List.map_append, List.mem_append]
      rintro (g | g)
      · exact ih hs.1 r hr g
      · have : r = x := by simpa using g
        exact hx (this ▸ (goN_sub t s).subset hr)
  unfold lateN
  rw [List.mem_filter, List.mem_range]
  have h1 := goN_mem t (ordN t) r
  rw [mem_ordN] at h1
  have h2 := hd (ordN t) (ordN_nodup t) r
  simp only [Bool.not_eq_true', decide_eq_false_iff_not, mem_keptI]
  constructor
  · rintro ⟨a, b⟩; exact (h1.1 a).resolve_left b
  · intro a; exact ⟨h1.2 (.inr a), fun b => h2 b a⟩
end Go.Dw
/- W11: Plan leaves least, with no program in sight. -/
namespace Go.Dw
open Go Go.Dx Go.Proofs Go.Mt
/-! ### risk -/
def riskT (t : Task) (r : Nat) : Nat := (riskN t r).toNat
def totR (t : Task) : Nat := sumR (riskT t) (List.range t.reels.length)
/-! ### a plan that is accepted -/
abbrev reelsN (l : List Turn) : List Nat := natsL (l.map Turn.reel)
/-- The machine and the day of a reel's turn. -/
def cellOf (l : List Turn) (r : Nat) : Int × Int := match l.find? (fun y => decide (y.reel = (r : Int))) with
  | some x => (x.machine, x.day)
  | none => (0, 0)
/-! ### those that were refused -/
theorem places_lt {t : Task} {bar : Pl → Bool} {r : Nat} {p : Pl} (h : adjB t bar r p) : r < t.reels.length := by
  obtain ⟨m, d, n⟩ := p
  have h1 := (mem_placesL.1 h.1).1
  rcases Nat.lt_or_ge r t.reels.length with g | g
  · exact g
  · exfalso
    have e : reelAt t (r : Nat) = noReel := by unfold reelAt; rw [Int.toNat_natCast]; exact getD_out g
    rw [e] at h1; cases h1
def allPl (t : Task) : List Pl := (List.range t.reels.length).flatMap fun (r : Nat) => placesL t (r : Nat)
theorem adjB_all {t : Task} {bar : Pl → Bool} : ∀ r p, adjB t bar r p → p ∈ allPl t := fun r p h => List.mem_flatMap.2 ⟨r, List.mem_range.2 (places_lt h), h.1⟩
/-- A late reel: what was kept when it came. -/
theorem goN_late {t : Task} : ∀ (s : List Nat), s.Nodup → ByRisk t s → ∀ p ∈ (goN t s).2, ∃ K1, K1.Sublist (goN t s).1 ∧ ¬ fitN t (K1 ++ [p.1]) ∧ p.2 = byN t K1 p.1 ∧ p.1 ∉ K1 ∧ p.1 ∉ (goN t s).1 ∧ ∀ k ∈ K1, riskN t p.1 ≤ riskN t k := by
  refine snoc_ind (fun _ _ p hp => by cases hp) (fun s x ih hn hb p hp => ?_)
  have hs := List.nodup_append.1 hn
  have hx : x ∉ s := fun h => hs.2.2 x h x (by simp) rfl
  have hb' := List.pairwise_append.1 hb
  have hxk : x ∉ (goN t s).1 := fun h => hx ((goN_sub t s).subset h)
  rw [goN_snoc] at hp ⊢
  unfold stepN at hp ⊢
  split
  · rename_i hf
    rw [if_pos hf] at hp
    obtain ⟨K1, a1, a2, a3, a4, a5, a6⟩ := ih hs.1 hb'.1 p hp
    refine ⟨K1, a1.trans (List.sublist_append_left _ _), a2, a3, a4, fun h => ?_, a6⟩
    rcases List.mem_append.1 h with g | g
    · exact a5 g
    · have : p.1 = x := List.mem_singleton.1 g
      exact hx (this ▸ (goN_keys t s).subset (List.mem_map.2 ⟨p, hp, rfl⟩))
  · rename_i hf
    rw [if_neg hf] at hp
    rcases List.mem_append.1 hp with g | g
    · obtain ⟨K1, a1, a2, a3, a4, a5, a6⟩ := ih hs.1 hb'.1 p g
      exact ⟨K1, a1, a2, a3, a4, a5, a6⟩
    · rw [List.mem_singleton.1 g]
      refine ⟨(goN t s).1, List.Sublist.refl _, hf, rfl, hxk, hxk, fun k hk => ?_⟩
      have := hb'.2.2 k ((goN_sub t s).subset hk) x (by simp)
      show riskN t x ≤ riskN t k
      omega
theorem fit_comm {t : Task} {K : List Nat} {r : Nat} : fitN t (K ++ [r]) ↔ fitN t (r :: K) := Fit.congr (fun _ _ _ => Iff.rfl) fun x => by simp [or_comm]
/-! ### the turns -/
theorem barL_one (p : Pl) (q : Pl) : barL [p] q = false ↔ q ≠ p := by rw [barL_ff, List.mem_singleton]
/-- Where reels fit, the first one finds a turn with which all others fit. -/
theorem turnC_is {t : Task} (hV : Valid t) {r : Nat} {rest : List Nat} (hn : (r :: rest).Nodup) (hl : ∀ x ∈ r :: rest, x < t.reels.length) (hf : fitN t (r :: rest)) : ∃ d m, d < t.days.toNat ∧ m < t.machines.length ∧ turnC t r rest = some (d, m) ∧ okC t r rest (d, m) = true := by
  obtain ⟨f, h1, h2⟩ := hf
  rw [List.nodup_cons] at hn
  have hB := BarLow.start hV
  have hl' := fun x hx => hl x (List.mem_cons_of_mem _ hx)
  rcases turn_eq1 hB hV (hl r List.mem_cons_self) hn.2 hl' with ⟨g1, _⟩ | ⟨d, m, n, hd, hm, _, _, _, _, _, g2⟩
  · exfalso
    have := List.find?_eq_none.1 g1 (f r) (h1 r List.mem_cons_self).1
    refine this (okP_iff.2 ⟨by simp, f, fun x hx => ⟨(h1 x (List.mem_cons_of_mem _ hx)).1, ?_⟩, fun x hx y hy e => h2 x (List.mem_cons_of_mem _ hx) y (List.mem_cons_of_mem _ hy) e⟩)
    refine (barL_one _ _).2 fun e => hn.1 ?_
    have := h2 x (List.mem_cons_of_mem _ hx) r List.mem_cons_self e
    rw [← this]; exact hx
  · exact ⟨d, m, hd, hm, g2, List.find?_some g2⟩
theorem okC_parts {u : Task} {r : Nat} {rest : List Nat} {d m : Nat} (h : okC u r rest (d, m) = true) : canB u r m d = true ∧ capM u m d ≠ 0 ∧ fitN (low u m d) rest := okC_iff.1 h
theorem low_lowd {t : Task} (hV : Valid t) {m d : Nat} (hm : m < t.machines.length) (hd : d < t.days.toNat) (hc : capM t m d ≠ 0) : Lowd t (low t m d) := (Lowd.refl hV).low hV hm hd hc
/-- What the turns of reels that fit are. -/
theorem turnsG_ok : ∀ {l : List Nat} {t : Task}, Valid t → l.Pairwise (· < ·) → (∀ x ∈ l, x < t.reels.length) → fitN t l →
    (turnsG t l).map Turn.reel = ints l ∧ (∀ x ∈ turnsG t l, 0 ≤ x.machine ∧ x.machine < t.machines.length ∧ placeOk t x = true) ∧ ∀ m d : Nat, m < t.machines.length → d < t.days.toNat → (cntT (turnsG t l) m (t.first + (d : Int)) : Int) ≤ capM t m d
  | [], t, hV, _, _, _ => ⟨rfl, (fun x hx => nomatch hx), fun m d _ _ => by
    have := ((Lowd.refl hV).cap m d).1
    show ((0 : Nat) : Int) ≤ _
    omega⟩
  | r :: rest, t, hV, hn, hl, hf => by
    have hnd : (r :: rest).Nodup := hn.imp fun h => by omega
    obtain ⟨d, m, hd, hm, h1, h2⟩ := turnC_is hV hnd hl hf
    obtain ⟨k1, k2, k3⟩ := okC_parts h2
    have hL := low_lowd hV hm hd k2
    have ih := turnsG_ok (t := low t m d) (hL.valid hV) (List.pairwise_cons.1 hn).2 (fun x hx => by rw [hL.reels]; exact hl x (List.mem_cons_of_mem _ hx)) k3
    obtain ⟨i1, i2, i3⟩ := ih
    have e : turnsG t (r :: rest) = ⟨r, m, t.first + d⟩ :: turnsG (low t m d) rest := by
      show (match turnC t r rest with | none => turnsG t rest | some c => ⟨r, c.2, t.first + c.1⟩ :: turnsG (low t c.2 c.1) rest) = _
      rw [h1]
    rw [e]
    refine ⟨by rw [List.map_cons, i1]; rfl, fun x hx => ?_, fun m' d' hm' hd' => ?_⟩
    · rcases List.mem_cons.1 hx with rfl | g
      · obtain ⟨c1, c2, c3⟩ := of_decide_eq_true k1
        exact ⟨by show (0 : Int) ≤ (m : Nat); omega, by show ((m : Nat) : Int) < _; omega, decide_eq_true ⟨c1, c2, c3⟩⟩
      · obtain ⟨j1, j2, j3⟩ := i2 x g
        rw [low_len] at j2
        refine ⟨j1, j2, ?_⟩
        have := of_decide_eq_true j3
        rw [hL.reelAt] at this
        exact decide_eq_true this
    · have j := i3 m' d' (by rw [low_len]; exact hm') hd'
      rw [capM_low hm (by have := (Lowd.refl hV).pl m hm; omega)] at j
      have e2 : cntT (⟨r, m, t.first + d⟩ :: turnsG (low t m d) rest) m' (t.first + d') = cntT [⟨r, m, t.first + d⟩] m' (t.first + d') + cntT (turnsG (low t m d) rest) m' (t.first + d') := by rw [← cntT_append]; rfl
      rw [e2, cntT_one]
      simp only
      have j' : (cntT (turnsG (low t m d) rest) m' (t.first + (d' : Int)) : Int) ≤ if m' = m ∧ d' = d then capM t m d - 1 else capM t m' d' := j
      by_cases hc : m' = m ∧ d' = d
      · obtain ⟨rfl, rfl⟩ := hc
        simp only [and_self, if_true] at j' ⊢
        omega
      · rw [if_neg hc] at j'
        rw [if_neg (fun e => hc ⟨by omega, by omega⟩)]
        omega
theorem keptS_pw (t : Task) : (keptS t).Pairwise (· < ·) := by
  unfold keptS natsL
  rw [List.pairwise_map]
  refine (List.Pairwise.and_mem.1 (sorted_lt (sortI_sorted _) (keptI_nodup t))).imp fun {a b} h => ?_
  have := (keptI_in h.1).1
  omega
theorem keptS_fit (t : Task) : fitN t (keptS t) := (Fit.congr (fun _ _ _ => Iff.rfl) fun _ => mem_keptS).2 (goN_fit t _)
end Go.Dw
/- W12: late reels, by whom; plans that are proved, with no program in sight. -/
namespace Go.Dw
open Go Go.Dx Go.Proofs Go.Mt
theorem mem_byN {t : Task} {K : List Nat} {r k : Nat} (hK : K.Nodup) : k ∈ byN t K r ↔ By (adjB t fun _ => false) K r k := by
  have key : ∀ i (hi : i < K.length), fitN t (K.take i ++ K.drop (i + 1) ++ [r]) ↔ Fit (adjB t fun _ => false) (r :: out1 K K[i]) := fun i hi => by
    refine Fit.congr (fun _ _ _ => Iff.rfl) fun x => ?_
    rw [List.mem_append, List.mem_singleton, List.mem_cons, mem_out1]
    have e : K = K.take i ++ K[i] :: K.drop (i + 1) := by rw [← List.drop_eq_getElem_cons hi, List.take_append_drop]
    have hn : (K.take i ++ K[i] :: K.drop (i + 1)).Nodup := by rw [← e]; exact hK
    rw [List.nodup_append, List.nodup_cons] at hn
    have hm : x ∈ K ↔ x ∈ K.take i ∨ x = K[i] ∨ x ∈ K.drop (i + 1) := by
      conv => lhs; rw [e]
      rw [List.mem_append, List.mem_cons]
    rw [List.mem_append]
    constructor
    · rintro ((g | g) | g)
      · exact .inr ⟨hm.2 (.inl g), fun e2 => hn.2.2 x g K[i] List.mem_cons_self e2⟩
      · exact .inr ⟨hm.2 (.inr (.inr g)), fun e2 => hn.2.1.1 (e2 ▸ g)⟩
      · exact .inl g
    · rintro (g | ⟨g, hne⟩)
      · exact .inr g
      · rcases hm.1 g with a | a | a
        · exact .inl (.inl a)
        · exact absurd a hne
        · exact .inl (.inr a)
  unfold byN By
  rw [List.mem_flatMap]
  constructor
  · rintro ⟨i, hi, hk⟩
    have hi := List.mem_range.1 hi
    split at hk
    · rename_i hf
      have e : K.getD i 0 = K[i] := by rw [List.getD_eq_getElem?_getD, List.getElem?_eq_getElem hi]; rfl
      rw [e] at hk
      rw [List.mem_singleton.1 hk]
      exact ⟨List.getElem_mem hi, (key i hi).1 hf⟩
    · cases hk
  · rintro ⟨hm, hf⟩
    obtain ⟨i, hi, e⟩ := List.getElem_of_mem hm
    refine ⟨i, List.mem_range.2 hi, ?_⟩
    rw [if_pos ((key i hi).2 (by rw [e]; exact hf)), List.getD_eq_getElem?_getD, List.getElem?_eq_getElem hi, Option.getD_some, e]
    exact List.mem_cons_self
open Classical in
theorem byN_sub (t : Task) (K : List Nat) (r : Nat) : (byN t K r).Sublist K := by
  have h : ∀ k, k ≤ K.length → ((List.range k).flatMap fun i => if fitN t (K.take i ++ K.drop (i + 1) ++ [r]) then [K.getD i 0] else []).Sublist (K.take k) := by
    intro k
    induction k with
    | zero => intro _; simp
    | succ k ih =>
      intro hk
      rw [List.range_succ, List.flatMap_append, take_succ (by omega)]
      refine (ih (by omega)).append ?_
      have e : K.getD k 0 = K[k] := by rw [List.getD_eq_getElem?_getD, List.getElem?_eq_getElem (by omega)]; rfl
      simp only [List.flatMap_cons, List.flatMap_nil, List.append_nil, e]
      split
      · exact List.Sublist.refl _
      · exact List.nil_sublist _
  have := h K.length (Nat.le_refl _)
  rw [List.take_length] at this
  exact this
/-- A late reel: those without any of which it would fit; their places are as many as they are. -/
theorem late_law {t : Task} (hV : Valid t) {r : Nat} (hr : r ∈ lateN t) :
    (byOf t r).Nodup ∧ (∀ k ∈ byOf t r, k ∈ (goT t).1 ∧ riskN t r ≤ riskN t k) ∧ r ∉ (goT t).1 ∧ r < t.reels.length ∧ countS t ((r : Int) :: ints (byOf t r)) = ((byOf t r).length : Nat) := by
  obtain ⟨p, hp, rfl⟩ := List.mem_map.1 (late_iff.1 hr)
  rw [byOf_mem hp]
  obtain ⟨K1, a1, a2, a3, a4, a5, a6⟩ := goN_late _ (ordN_nodup t) (ordN_by t) p hp
  have hpl : p.1 < t.reels.length := mem_ordN.1 ((goN_keys t _).subset (List.mem_map.2 ⟨p, hp, rfl⟩))
  have hK1 : K1.Nodup := (goT_nodup t).sublist a1
  have hb := byN_sub t K1 p.1
  rw [a3]
  have hbn : (byN t K1 p.1).Nodup := hK1.sublist hb
  refine ⟨hbn, fun k hk => ⟨a1.subset (hb.subset hk), a6 k (hb.subset hk)⟩, a5, hpl, ?_⟩
  obtain ⟨f, h1, h2⟩ := goN_fit t (ordN t)
  have ha : ∀ x ∈ K1, adjB t (fun _ => false) x (f x) := fun x hx => h1 x (a1.subset hx)
  have hi : Inj f K1 := fun x hx y hy e => h2 x (a1.subset hx) y (a1.subset hy) e
  have hc := by_clo (allPl t) adjB_all hK1 ha hi a4 (fun h => a2 (fit_comm.2 h))
  have hin : InR t ((p.1 : Int) :: ints (byN t K1 p.1)) := fun y hy => by
    rcases List.mem_cons.1 hy with e | g
    · rw [e]; omega
    · obtain ⟨k, hk, rfl⟩ := List.mem_map.1 g
      have := goT_lt (a1.subset (hb.subset hk))
      omega
  have hnat : natsL ((p.1 : Int) :: ints (byN t K1 p.1)) = p.1 :: byN t K1 p.1 := by
    unfold natsL ints
    rw [List.map_cons, List.map_map, Int.toNat_natCast]
    congr 1
    exact (List.map_congr_left fun x _ => Int.toNat_natCast x).trans (List.map_id _)
  have := clo_count (L := byN t K1 p.1) (N := cellsL t ((p.1 : Int) :: ints (byN t K1 p.1)) t.machines.length) hc ha hi hbn (fun x => mem_byN hK1) (cellsL_nodup _ _ _) (fun q => by
    rw [mem_cellsL hV hin, places_nats hin, hnat])
  rw [countS_len hV, this]
/-! ### what Accept answers of the plan -/
theorem lateN_pw (t : Task) : (lateN t).Pairwise (· < ·) := List.pairwise_lt_range.sublist List.filter_sublist
theorem ints_len (l : List Nat) : (ints l).length = l.length := List.length_map _
/-! ### any plan that is accepted -/
end Go.Dw
