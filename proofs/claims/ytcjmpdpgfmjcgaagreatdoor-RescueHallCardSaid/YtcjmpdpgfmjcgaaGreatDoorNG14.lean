/- V1: Hall's condition for reels, with no program in sight. -/
import Derived.Test.YtcjmpdpgfmjcgaaGreatDoorNG13
import Derived.Test.YtcjmpdpgfmjcgaaGreatDoorNG10
import Derived.Test.YtcjmpdpgfmjcgaaGreatDoorNG2
namespace Go.Dw
open Go Go.Dx Go.Proofs Go.Mt
theorem mem_natsL {l : List Int} (h0 : ∀ x ∈ l, 0 ≤ x) {r : Nat} : r ∈ natsL l ↔ (r : Int) ∈ l := by
  unfold natsL
  rw [List.mem_map]
  constructor
  · rintro ⟨x, hx, rfl⟩
    have := h0 x hx
    rw [Int.toNat_of_nonneg this]; exact hx
  · intro h; exact ⟨r, h, Int.toNat_natCast r⟩
abbrev fitP (t : Task) (l : List Int) : Prop := Fit (adjB t fun _ => false) (natsL l)
def InR (t : Task) (l : List Int) : Prop := ∀ x ∈ l, 0 ≤ x ∧ x < t.reels.length
theorem InR.pos {t : Task} {l : List Int} (h : InR t l) : ∀ x ∈ l, 0 ≤ x := fun x hx => (h x hx).1
theorem places_nats {t : Task} {l : List Int} (h : InR t l) {p : Pl} : (∃ k ∈ l, p ∈ placesL t k) ↔ ∃ r ∈ natsL l, adjB t (fun _ => false) r p := by
  constructor
  · rintro ⟨k, hk, hp⟩
    have h0 := (h k hk).1
    exact ⟨k.toNat, List.mem_map.2 ⟨k, hk, rfl⟩, by rw [Int.toNat_of_nonneg h0]; exact hp, rfl⟩
  · rintro ⟨r, hr, hp, _⟩
    exact ⟨r, (mem_natsL h.pos).1 hr, hp⟩
theorem countS_len {t : Task} (hV : Valid t) (l : List Int) : countS t l = ((cellsL t l t.machines.length).length : Nat) := (cellsL_len hV (Nat.le_refl _)).symm
/-- Reels that fit can use as many places as they are. -/
theorem hall_fit {t : Task} (hV : Valid t) {l : List Int} (hl : InR t l) (hn : l.Nodup) (hF : fitP t l) : (l.length : Int) ≤ countS t l := by
  obtain ⟨f, h1, h2⟩ := hF
  have := nodup_le (l := (natsL l).map f) (m := cellsL t l t.machines.length) (map_nodup h2 (natsL_nodup hn hl.pos)) (fun p hp => by
    obtain ⟨r, hr, rfl⟩ := List.mem_map.1 hp
    exact (mem_cellsL hV hl).2 ((places_nats hl).2 ⟨r, hr, h1 r hr⟩))
  rw [countS_len hV]
  simp only [List.length_map, natsL] at this
  omega
/-- The first reels, to the one numbered n, without the one numbered i. -/
def remL (l : List Int) (n i : Nat) : List Int := l.take i ++ (l.drop (i + 1)).take (n - i)
theorem mem_remL {l : List Int} (hd : l.Nodup) {n i : Nat} (hn : n < l.length) (hi : i < n) {x : Int} : x ∈ remL l n i ↔ x ∈ l.take (n + 1) ∧ x ≠ l[i]'(by omega) := by
  unfold remL
  have e : l.take (n + 1) = l.take i ++ (l[i]'(by omega) :: (l.drop (i + 1)).take (n - i)) := by
    have h1 : l = l.take i ++ (l[i]'(by omega) :: l.drop (i + 1)) := by rw [← List.drop_eq_getElem_cons, List.take_append_drop]
    have h2 : (l.take i).length = i := by simp; omega
    conv => lhs; rw [h1]
    rw [List.take_append, h2, show n + 1 - i = (n - i) + 1 by omega, List.take_succ_cons, List.take_of_length_le (by rw [h2]; omega)]
  have hd2 : (l.take (n + 1)).Nodup := hd.sublist (List.take_sublist _ _)
  rw [e] at hd2 ⊢
  rw [List.nodup_append] at hd2
  obtain ⟨_, hd3, hd4⟩ := hd2
  rw [List.nodup_cons] at hd3
  simp only [List.mem_append, List.mem_cons]
  constructor
  · rintro (g | g)
    · exact ⟨.inl g, fun e => hd4 x g _ List.mem_cons_self e⟩
    · exact ⟨.inr (.inr g), fun e => hd3.1 (by rw [← e]; exact g)⟩
  · rintro ⟨g | g | g, hne⟩
    · exact .inl g
    · exact absurd g hne
    · exact .inr g
open Classical in
/-- Those of the first k without which the first n + 1 fit. -/
noncomputable def tightL (t : Task) (l : List Int) (n k : Nat) : List Int := (List.range k).flatMap fun i => if fitP t (remL l n i) then [l.getD i 0] else []
theorem mem_tightL {t : Task} {l : List Int} {n k : Nat} {x : Int} : x ∈ tightL t l n k ↔ ∃ i, i < k ∧ fitP t (remL l n i) ∧ x = l.getD i 0 := by
  unfold tightL
  simp only [List.mem_flatMap, List.mem_range]
  constructor
  · rintro ⟨i, hi, hx⟩
    split at hx
    · rename_i h; exact ⟨i, hi, h, by simpa using hx⟩
    · cases hx
  · rintro ⟨i, hi, h, hx⟩
    exact ⟨i, hi, by rw [if_pos h]; simpa using hx⟩
theorem tightL_nodup {t : Task} {l : List Int} (hd : l.Nodup) {n k : Nat} (hk : k ≤ l.length) : (tightL t l n k).Nodup := by
  refine nodup_flat (key := fun x => l.idxOf x) List.nodup_range (fun i _ => by split <;> simp) (fun i hi x hx => ?_)
  have hi' : i < l.length := by have := List.mem_range.1 hi; omega
  split at hx
  · have : x = l[i] := by simpa [List.getD_eq_getElem?_getD, hi'] using hx
    subst this
    have h1 : l.idxOf l[i] < l.length := List.idxOf_lt_length_of_mem (List.getElem_mem hi')
    exact (List.getElem_inj hd).1 (List.getElem_idxOf h1)
  · cases hx
/-- Reels that do not fit, though they do without the last one: those that are in the way can use too few places, by one. -/
theorem hall_tight {t : Task} (hV : Valid t) {l : List Int} (hl : InR t l) (hd : l.Nodup) {n : Nat} (hn : n < l.length) (hF : fitP t (l.take n)) (hnF : ¬ fitP t (l.take (n + 1))) : countS t (l[n] :: tightL t l n n) = ((tightL t l n n).length : Nat) := by
  have hlt : InR t (l.take n) := fun x hx => hl x (List.mem_of_mem_take hx)
  have hdt : (l.take n).Nodup := hd.sublist (List.take_sublist _ _)
  have hK := natsL_nodup hdt hlt.pos
  obtain ⟨f, ha, hi⟩ := hF
  have hrn := hl _ (List.getElem_mem hn)
  obtain ⟨r, hr⟩ : ∃ r : Nat, l[n] = r := ⟨l[n].toNat, by omega⟩
  have hrK : r ∉ natsL (l.take n) := fun hm => by
    have := (mem_natsL hlt.pos).1 hm
    rw [← hr] at this
    obtain ⟨j, hj, e⟩ := List.getElem_of_mem this
    rw [List.getElem_take] at e
    have := (List.getElem_inj hd).1 e
    simp at hj; omega
  have hmem1 : ∀ s, s ∈ r :: natsL (l.take n) ↔ s ∈ natsL (l.take (n + 1)) := fun s => by
    rw [take_succ hn, hr]
    simp only [natsL, List.map_append, List.map_cons, List.map_nil, List.mem_append, List.mem_cons, List.not_mem_nil, or_false]
    rw [Int.toNat_natCast]
    exact or_comm
  have hnF' : ¬ Fit (adjB t fun _ => false) (r :: natsL (l.take n)) := fun h => hnF (h.mono fun s hs => (hmem1 s).2 hs)
  let U := cellsL t ((List.range t.reels.length).map fun (r : Nat) => (r : Int)) t.machines.length
  have hU : ∀ r p, adjB t (fun _ => false) r p → p ∈ U := fun r p hp => by
    refine (mem_cellsL hV (fun k hk => ?_)).2 ⟨r, List.mem_map.2 ⟨r, List.mem_range.2 ?_, rfl⟩, hp.1⟩
    · obtain ⟨j, hj, rfl⟩ := List.mem_map.1 hk
      have := List.mem_range.1 hj
      omega
    · refine Classical.byContradiction fun hge => ?_
      obtain ⟨a, b, c⟩ := p
      have := (mem_placesL.1 hp.1).1
      unfold reelAt at this
      rw [List.getD_eq_getElem?_getD, List.getElem?_eq_none (by simp; omega)] at this
      cases this
  have hc := by_clo U hU hK ha hi hrK hnF'
  have hLD : ∀ x, x ∈ natsL (tightL t l n n) ↔ By (adjB t fun _ => false) (natsL (l.take n)) r x := fun x => by
    have key : ∀ i (hin : i < n), fitP t (remL l n i) ↔ Fit (adjB t fun _ => false) (r :: out1 (natsL (l.take n)) (l[i]'(by omega)).toNat) := fun i hin => by
      have hi0 := hl _ (List.getElem_mem (show i < l.length by omega))
      have hrem : ∀ x ∈ remL l n i, 0 ≤ x := fun x hx => (hl x (List.mem_of_mem_take ((mem_remL hd hn hin).1 hx).1)).1
      refine Fit.congr (fun _ _ _ => Iff.rfl) (fun s => ?_)
      rw [mem_natsL hrem, mem_remL hd hn hin]
      have h1 := hmem1 s
      rw [mem_natsL (l := l.take (n + 1)) (fun x hx => (hl x (List.mem_of_mem_take hx)).1)] at h1
      rw [← h1, List.mem_cons, List.mem_cons, mem_out1]
      constructor
      · rintro ⟨g | g, hne⟩
        · exact .inl g
        · exact .inr ⟨g, fun e => hne (by omega)⟩
      · rintro (g | ⟨g, hne⟩)
        · refine ⟨.inl g, fun e => hrK ?_⟩
          rw [← g]
          exact (mem_natsL hlt.pos).2 (by rw [e]; exact List.mem_iff_getElem.2 ⟨i, by simp; omega, by rw [List.getElem_take]⟩)
        · exact ⟨.inr g, fun e => hne (by omega)⟩
    have hpos : ∀ y ∈ tightL t l n n, 0 ≤ y := fun y hy => by
      obtain ⟨i, hi', _, rfl⟩ := mem_tightL.1 hy
      have h1 : i < l.length := by omega
      rw [List.getD_eq_getElem?_getD, List.getElem?_eq_getElem h1]
      exact (hl _ (List.getElem_mem h1)).1
    rw [mem_natsL hpos, mem_tightL]
    unfold By
    rw [mem_natsL hlt.pos]
    constructor
    · rintro ⟨i, hi', hf, e⟩
      have h1 : i < l.length := by omega
      rw [List.getD_eq_getElem?_getD, List.getElem?_eq_getElem h1, Option.getD_some] at e
      refine ⟨by rw [e]; exact List.mem_iff_getElem.2 ⟨i, by simp; omega, by rw [List.getElem_take]⟩, ?_⟩
      have := (key i hi').1 hf
      rw [← e, Int.toNat_natCast] at this
      exact this
    · rintro ⟨hm, hf⟩
      obtain ⟨i, hi', e⟩ := List.getElem_of_mem hm
      rw [List.getElem_take] at e
      rw [List.length_take] at hi'
      obtain ⟨hi1, hi2⟩ : i < n ∧ i < l.length := by omega
      refine ⟨i, hi1, (key i hi1).2 (by rw [e, Int.toNat_natCast]; exact hf), ?_⟩
      rw [List.getD_eq_getElem?_getD, List.getElem?_eq_getElem hi2, Option.getD_some, e]
  have hpos : InR t (l[n] :: tightL t l n n) := fun y hy => by
    rcases List.mem_cons.1 hy with e | g
    · rw [e]; exact hrn
    · obtain ⟨i, hi', _, rfl⟩ := mem_tightL.1 g
      have h1 : i < l.length := by omega
      rw [List.getD_eq_getElem?_getD, List.getElem?_eq_getElem h1]
      exact hl _ (List.getElem_mem h1)
  have := clo_count (L := natsL (tightL t l n n)) (N := cellsL t (l[n] :: tightL t l n n) t.machines.length) hc ha hi (natsL_nodup (tightL_nodup hd (by omega)) (fun x hx => (hpos x (List.mem_cons_of_mem _ hx)).1)) hLD (cellsL_nodup _ _ _) (fun p => by
    rw [mem_cellsL hV hpos, places_nats hpos]
    simp only [natsL, List.map_cons, hr, Int.toNat_natCast])
  rw [countS_len hV, this]
  simp [natsL]
end Go.Dw
/- V2: the contract of part: some of a list's numbers. -/
namespace Go.Dw
open Go Go.Dx Go.Proofs
set_option maxRecDepth 100000
theorem part_sv {a : Option Addr} {cap : Nat} {l : List Int} {bits : Int} {h : Heap} (hI : IntsAt h a l) (hlen : l.length < 1000000) :
    Sv Tryz.prog 35 [.slice a l.length cap, .int .u32 bits] h (RetP fun v h' => ∃ a' s cap', v = .slice a' s.length cap' ∧ SrcAt i64 h' a' s ∧ s.Sublist l ∧ Ext h h') := by
  refine Sv_wf fun hw => ?_
  refine Sv_enter Tryz.func35 rfl (by rw [Tryz.ntmps35]; rfl) ?_; show Wc Tryz.prog ⟨35, 28, none⟩ _ _ _ _ _
  refine Wc_seq ?_; refine Wc_region ?_; refine Wo_do rfl rfl rfl rfl (A_assign rfl) ?_; refine Wo_nil ?_; refine Wc_seq ?_; refine Wc_region ?_; refine Wo_do rfl rfl rfl rfl (A_assign rfl) ?_; refine Wo_nil ?_; refine Wc_seq ?_; refine Wc_seq ?_; refine Wc_region ?_; refine Wo_do rfl rfl rfl rfl (A_assign rfl) ?_; refine Wo_nil ?_; refine Wc_block ?_
  refine Wc_loop (fun (k : Nat) m ds h' => ds = [] ∧ k ≤ l.length ∧ Ext h h' ∧ ∃ (v : Value) (s : List Int), FreshSl h h' v 3 1 (s.map i64) s.length ∧ s.Sublist (l.take k) ∧ AllK m [(0, .slice a l.length cap), (1, .int .u32 bits), (5, v), (6, i64 k)])
    (fun k => l.length - k) 0 ?_ ?_
  · exact ⟨rfl, Nat.zero_le _, Ext.refl _, _, [], FreshSl.nil _ _ _ _, List.Sublist.slnil, rfl, rfl, rfl, rfl, trivial⟩
  rintro k m ds h1 ⟨rfl, hk, hE, v, s, hF, hs, hall⟩
  refine Wc.le ?_ (Le.kn hall)
  refine Wc_seq ?_; refine Wc_seq ?_; refine Wc_region ?_; refine Wo_do rfl rfl rfl rfl (A_move rfl) ?_; refine Wo_do rfl rfl rfl rfl (A_move rfl) ?_; refine Wo_do rfl rfl rfl rfl (A_lenS rfl rfl rfl Und.h rfl) ?_
  refine Wo_dec rfl rfl rfl rfl (A_lss rfl rfl) (fun h1 => ?_) (fun h1 => ?_)
  rotate_left
  · have hk2 : k = l.length := by omega
    subst hk2
    rw [List.take_length] at hs
    obtain ⟨a', rfl, _, hsrc⟩ := hF.srcAt
    refine Wo_nil ?_; refine Wc_condF rfl ?_; refine Wc_exit ?_; refine Wc_seq ?_; refine Wc_region ?_; refine Wo_do rfl rfl rfl rfl (A_move rfl) ?_; refine Wo_do rfl rfl rfl rfl (A_assign rfl) ?_; refine Wo_nil ?_
    exact Wc_ret (Lv_ret rfl ⟨a', s, _, rfl, hsrc, hs, hE⟩)
  have hk' : k < l.length := by omega
  obtain ⟨b, o, oa, rfl, hc⟩ := (hI.ext hE) k hk'
  refine Wo_nil ?_; refine Wc_condT rfl ?_; refine Wc_skip ?_; refine Wc_seq ?_; refine Wc_block ?_; refine Wc_seq ?_; refine Wc_region ?_; refine Wo_do rfl rfl rfl rfl (A_move rfl) ?_; refine Wo_do rfl rfl rfl rfl (A_move rfl) ?_
  refine Wo_do rfl rfl rfl rfl (A_rem rfl rfl (by decide)) ?_
  skip
  refine Wo_do rfl rfl rfl rfl (A_conv ⟨_, Und.h⟩ Und.h rfl) ?_
  have hz : (0 : Int) ≤ IntKind.u64.wrap ((k : Int).tmod 32) := by
    have h1 := Int.tmod_nonneg 32 (show (0 : Int) ≤ (k : Int) by omega)
    have h2 := Int.tmod_lt_of_pos (k : Int) (show (0 : Int) < 32 by decide)
    rw [IntWalk.u64_in _ (by omega)]
    exact h1
  generalize IntKind.u64.wrap ((k : Int).tmod 32) = z at *
  skip
  refine Wo_do rfl rfl rfl rfl (A_shr rfl rfl hz) ?_
  skip
  refine Wo_do rfl rfl rfl rfl (A_rem rfl rfl (by decide)) ?_
  skip
  refine Wo_dec rfl rfl rfl rfl (A_eql rfl rfl) (fun hb => ?_) (fun hb => ?_)
  rotate_left
  · refine Wo_nil ?_; refine Wc_condF rfl ?_; refine Wc_skip ?_; refine Wc_region ?_; refine Wo_do rfl rfl rfl rfl (A_move rfl) ?_; refine Wo_do rfl rfl rfl rfl (A_ad rfl rfl) ?_; refine Wo_do rfl rfl rfl rfl (A_assign rfl) ?_; refine Wo_nil ?_
    refine ⟨k + 1, ?_, rfl, hk', hE, v, s, hF, hs.trans (List.take_sublist_take_left (by omega)), rfl, rfl, rfl, rfl, trivial⟩
    show l.length - (k + 1) < l.length - k; omega
  refine Wo_nil ?_; refine Wc_condT rfl ?_; refine Wc_region ?_; refine Wo_do rfl rfl rfl rfl (A_move rfl) ?_; refine Wo_do rfl rfl rfl rfl (A_move rfl) ?_; refine Wo_do rfl rfl rfl rfl (A_move rfl) ?_
  refine Wo_do rfl rfl rfl rfl (A_ix Und.h Tsz.h rfl rfl) ?_
  refine Wo_do rfl rfl rfl rfl (A_ld OneC.h rfl) ?_
  have hsl := hs.length_le
  rw [List.length_take] at hsl
  refine Wo_bs rfl rfl Und.h Tsz.h Zr.h rfl rfl rfl rfl rfl fun h2 hE2 hW2 hg2 hx2 => ?_
  skip
  refine Wo_appendF (by' := 8) (k := 1) (n := s.length) (l := [i64 l[k]]) hw (hE.trans hE2) rfl rfl rfl rfl rfl Und.h inferInstance rfl rfl (hF.ext hE2) ((FreshSl.lit (h0 := h) (n := 1) (sz := 1) (cs := [i64 l[k]]) hg2 rfl hE.2.1).src (dd := .slice 3) Und.h (by intro k; simp)) rfl rfl (by omega) (by omega) fun v3 h3 hF3 hE3 hK3 hx3 hv3 => ?_
  refine Wo_do rfl rfl rfl rfl (A_assign rfl) ?_; refine Wo_nil ?_; refine Wc_region ?_; refine Wo_do rfl rfl rfl rfl (A_move rfl) ?_; refine Wo_do rfl rfl rfl rfl (A_ad rfl rfl) ?_; refine Wo_do rfl rfl rfl rfl (A_assign rfl) ?_; refine Wo_nil ?_
  refine ⟨k + 1, ?_, rfl, hk', hE3, v3, s ++ [l[k]], by rw [List.map_append, List.length_append]; exact hF3, ?_, rfl, rfl, rfl, rfl, trivial⟩
  · show l.length - (k + 1) < l.length - k; omega
  · rw [take_succ hk']
    exact hs.append (List.Sublist.refl _)
end Go.Dw
