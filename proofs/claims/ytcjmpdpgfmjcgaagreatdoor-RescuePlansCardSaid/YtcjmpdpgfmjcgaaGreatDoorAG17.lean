/- W8: the contract of the reference's chosen. -/
import Derived.Test.YtcjmpdpgfmjcgaaGreatDoorAG2
import Derived.Test.YtcjmpdpgfmjcgaaGreatDoorAG15
import Derived.Test.YtcjmpdpgfmjcgaaGreatDoorAG13
import Derived.Test.YtcjmpdpgfmjcgaaGreatDoorAG16
namespace Go.Dw
open Go Go.Dx Go.Proofs Go.Mt
set_option maxRecDepth 100000
/-- For each reel a list of the function's own. -/
structure ByAt (h0 h : Heap) (n ob : Nat) (L : Nat → Value) (G : Nat → List Nat) : Prop where
  o : h.get ob = some (.cells ((List.range n).map L) 31 false)
  leaf : ∀ r, r < n → FreshSl h0 h (L r) 3 1 ((G r).map fun (r : Nat) => i64 r) (G r).length
  linj : ∀ r r', r < n → r' < n → ∀ b, blkOf (L r) = some b → blkOf (L r') = some b → r = r'
  nr : h0.nx ≤ ob
theorem ByAt.ke {h0 h h' : Heap} {n ob : Nat} {L : Nat → Value} {G : Nat → List Nat} (a : ByAt h0 h n ob L G) (hk : ∀ b vs el op, (b = ob ∨ ∃ r, r < n ∧ blkOf (L r) = some b) → h.get b = some (.cells vs el op) → h'.get b = some (.cells vs el op)) : ByAt h0 h' n ob L G :=
  ⟨hk _ _ _ _ (.inl rfl) a.o, fun r hr => (a.leaf r hr).keep fun b o hb hg => by
    obtain ⟨⟨op, h1⟩, _⟩ := (a.leaf r hr).at3 hb
    rw [h1] at hg; cases hg
    exact hk _ _ _ _ (.inr ⟨r, hr, hb⟩) h1, a.linj, a.nr⟩
theorem ByAt.ext {h0 h h' : Heap} {n ob : Nat} {L : Nat → Value} {G : Nat → List Nat} (a : ByAt h0 h n ob L G) (he : Ext h h') : ByAt h0 h' n ob L G := a.ke fun _ _ _ _ _ hg => he.get hg
theorem ByAt.oc {h0 h : Heap} {n ob : Nat} {L : Nat → Value} {G : Nat → List Nat} (a : ByAt h0 h n ob L G) {r : Nat} (hr : r < n) : cellAt h ob (0 + r * 1) = some (L r) := cellAt_cells a.o (nth_range hr)
def updN {α : Type} (G : Nat → α) (c : Nat) (x : α) : Nat → α := fun c' => if c' = c then x else G c'
theorem updN_same {α : Type} (G : Nat → α) (c : Nat) (x : α) : updN G c x c = x := by simp [updN]
theorem updN_other {α : Type} (G : Nat → α) {c c' : Nat} (x : α) (h : c' ≠ c) : updN G c x c' = G c' := by simp [updN, h]
/-- One more in the list of a reel. -/
theorem ByAt.push {h0 h h1 h' : Heap} {n ob r x : Nat} {L : Nat → Value} {G : Nat → List Nat} {v : Value} (a : ByAt h0 h n ob L G) (hw : WF h) (hr : r < n) (hF : FreshSl h0 h1 v 3 1 (((G r).map fun (r : Nat) => i64 r) ++ [i64 (x : Nat)]) ((G r).length + 1)) (hK : Keep h h1 (blkOf (L r))) (hv : blkOf v = blkOf (L r) ∨ ∃ b, blkOf v = some b ∧ h.nx ≤ b)
    (hU : Upd h1 ob (.cells (((List.range n).map L).set r v) 31 false) h') : ByAt h0 h' n ob (updN L r v) (updN G r (G r ++ [x])) := by
  have hoo : h1.get ob = some (.cells ((List.range n).map L) 31 false) := hK _ _ (fun e => by
    obtain ⟨⟨op0, hg⟩, _⟩ := (a.leaf r hr).at3 e
    exact absurd (cells_el hg a.o) (by decide)) a.o
  have hlt : ∀ r' b, r' < n → blkOf (L r') = some b → b < h.nx := fun r' b hr' hb => by
    obtain ⟨⟨op0, hg⟩, _⟩ := (a.leaf r' hr').at3 hb
    exact hw _ _ hg
  have hleaf : ∀ r', r' < n → FreshSl h0 h1 (updN L r v r') 3 1 ((updN G r (G r ++ [x]) r').map fun (r : Nat) => i64 r) (updN G r (G r ++ [x]) r').length := fun r' hr' => by
    by_cases hc : r' = r
    · rw [hc, updN_same, updN_same, List.map_append, List.length_append]; exact hF
    · rw [updN_other _ _ hc, updN_other _ _ hc]
      exact (a.leaf r' hr').keep fun b o hb hg => hK _ _ (fun e => hc (a.linj r' r hr' hr b hb e)) hg
  refine ⟨?_, fun r' hr' => (hleaf r' hr').keep fun b o hb hg => hU.get (fun e => ?_) hg, fun r1 r2 h1' h2' b hb1 hb2 => ?_, a.nr⟩
  · rw [hU.at', range_set _ _ hr]
    rfl
  · obtain ⟨⟨op0, h2⟩, _⟩ := (hleaf r' hr').at3 hb
    exact absurd (cells_el hoo (e ▸ h2)) (by decide)
  · by_cases e1 : r1 = r <;> by_cases e2 : r2 = r
    · omega
    · rw [e1, updN_same] at hb1
      rw [updN_other _ _ e2] at hb2
      rcases hv with e | ⟨b', e, hb'⟩
      · rw [e] at hb1; exact absurd (a.linj r2 r h2' hr b hb2 hb1) e2
      · rw [e] at hb1; cases hb1
        have := hlt r2 _ h2' hb2; omega
    · rw [e2, updN_same] at hb2
      rw [updN_other _ _ e1] at hb1
      rcases hv with e | ⟨b', e, hb'⟩
      · rw [e] at hb2; exact absurd (a.linj r1 r h1' hr b hb1 hb2) e1
      · rw [e] at hb2; cases hb2
        have := hlt r1 _ h1' hb1; omega
    · rw [updN_other _ _ e1] at hb1
      rw [updN_other _ _ e2] at hb2
      exact a.linj r1 r2 h1' h2' b hb1 hb2
theorem nats_map (s : List Nat) : (s.map fun (r : Nat) => i64 r) = (s.map fun (r : Nat) => (r : Int)).map i64 := by rw [List.map_map]; rfl
theorem natsL_cast (s : List Nat) : natsL (s.map fun (r : Nat) => (r : Int)) = s := by
  unfold natsL
  rw [List.map_map]
  conv => rhs; rw [← List.map_id s]
  exact List.map_congr_left fun x _ => Int.toNat_natCast x
/-- .. as a thing of the function's own. -/
def byI (h0 : Heap) (n ob : Nat) (L : Nat → Value) (G : Nat → List Nat) : It where
  S := fun c => c = ob ∨ ∃ r, r < n ∧ blkOf (L r) = some c
  p := fun h => ByAt h0 h n ob L G
  loc := fun hk a => a.ke fun b _ _ _ hb hg => hk b _ hb hg
  ex := fun {h c} a hc => by
    rcases hc with rfl | ⟨r, hr, hb⟩
    · exact ⟨_, a.o⟩
    · obtain ⟨op, h1⟩ := (a.leaf r hr).got hb
      exact ⟨_, h1⟩
theorem ByAt.oo {h0 h h1 : Heap} {n ob r : Nat} {L : Nat → Value} {G : Nat → List Nat} (a : ByAt h0 h n ob L G) (hr : r < n) (hK : Keep h h1 (blkOf (L r))) : h1.get ob = some (.cells ((List.range n).map L) 31 false) := hK _ _ (fun e => by
  obtain ⟨op0, hg⟩ := (a.leaf r hr).got e
  exact absurd (cells_el hg a.o) (by decide)) a.o
theorem Own.pushBy {h0 h1 h2 h3 h4 : Heap} {n ob r x : Nat} {L : Nat → Value} {G : Nat → List Nat} {l : List It} {v : Value} (hO : Own h0 h1 (byI h0 n ob L G :: l)) (hw0 : WF h0) (hw : WF h1) (hw2 : WF h2) (he0 : Ext h0 h1) (hE : Ext h1 h2) (hr : r < n) (hF : FreshSl h0 h3 v 3 1 (((G r).map fun (r : Nat) => i64 r) ++ [i64 (x : Nat)]) ((G r).length + 1)) (hE3 : Ext h0 h3) (hK : Keep h2 h3 (blkOf (L r))) (hx : h2.nx ≤ h3.nx) (hv : blkOf v = blkOf (L r) ∨ ∃ b, blkOf v = some b ∧ h2.nx ≤ b)
    (hU : Upd h3 ob (.cells (((List.range n).map L).set r v) 31 false) h4) : Own h0 h4 (byI h0 n ob (updN L r v) (updN G r (G r ++ [x])) :: l) ∧ Ext h0 h4 := by
  have hB : ByAt h0 h2 n ob L G := (show ByAt h0 h1 n ob L G from hO.p1).ext hE
  have hX : Exb (byI h0 n ob L G).S h1 h4 := by
    have k1 : Exb (byI h0 n ob L G).S h2 h3 := ⟨fun b o hb hg => hK b o (fun e => hb (.inr ⟨r, hr, e⟩)) hg, hx, (hE3.2.2).trans (he0.trans hE).2.2.symm⟩
    exact ((Exb.of hE).trans k1).trans ((Exb.ofUpd hU).mono fun _ hc => .inl hc)
  refine ⟨hO.put hw he0.2.1 hX (hB.push hw2 hr hF hK hv hU) fun c hc => ?_, hO.grows hX he0 hw0⟩
  rcases hc with rfl | ⟨r', hr', hb⟩
  · exact .inl (.inl rfl)
  · by_cases e : r' = r
    · rw [e, updN_same] at hb
      rcases hv with g | ⟨b, g, hb'⟩
      · rw [g] at hb; exact .inl (.inr ⟨r, hr, hb⟩)
      · rw [g] at hb; cases hb
        exact .inr (Nat.le_trans hE.2.1 hb')
    · rw [updN_other _ _ e] at hb; exact .inl (.inr ⟨r', hr', hb⟩)
/-- Rows of cells, one behind another. -/
theorem cut_flat {α : Type} {f : α → List Value} {k : Nat} : ∀ {P : List α} {i : Nat} (hi : i < P.length), (∀ p ∈ P, (f p).length = k) → cut (P.flatMap f) (i * k) k = some (f P[i])
  | p :: P, 0, _, h => by
    have hp := h p List.mem_cons_self
    rw [List.flatMap_cons, Nat.zero_mul, cut_le (by rw [List.length_append]; omega)]
    simp only [List.drop_zero, List.getElem_cons_zero, Option.some.injEq]
    rw [← hp]
    exact List.take_left
  | p :: P, i + 1, hi, h => by
    have hp := h p List.mem_cons_self
    have ih := cut_flat (f := f) (k := k) (P := P) (i := i) (by simpa using hi) fun q hq => h q (List.mem_cons_of_mem _ hq)
    rw [List.flatMap_cons, List.getElem_cons_succ, ← ih]
    have hle : i * k + k ≤ (P.flatMap f).length := by
      have hl : (P.flatMap f).length = P.length * k := by
        have : ∀ {Q : List α}, (∀ p ∈ Q, (f p).length = k) → (Q.flatMap f).length = Q.length * k := by
          intro Q hQ
          induction Q with
          | nil => simp
          | cons q Q ihQ => rw [List.flatMap_cons, List.length_append, hQ q List.mem_cons_self, ihQ fun x hx => hQ x (List.mem_cons_of_mem _ hx), List.length_cons, Nat.succ_mul, Nat.add_comm]
        exact this fun q hq => h q (List.mem_cons_of_mem _ hq)
      have : i + 1 ≤ P.length := by
        have : i + 1 < (p :: P).length := hi
        rw [List.length_cons] at this; omega
      rw [hl, ← Nat.succ_mul]
      exact Nat.mul_le_mul_right k this
    rw [cut_le hle, cut_le (by rw [List.length_append, hp, Nat.succ_mul]; omega), Nat.succ_mul]
    congr 2
    rw [List.drop_append, List.drop_eq_nil_of_le (by omega), hp]
    simp
/-- Lists of numbers that lie apart from one another, and stay. -/
def lvI (h0 : Heap) (P : List (Lat × Value)) : It where
  S := fun c => ∃ p ∈ P, blkOf p.2 = some c
  p := fun h => ∀ p ∈ P, FreshSl h0 h p.2 3 1 (p.1.by'.map i64) p.1.by'.length
  loc := fun hk a p hp => (a p hp).keep fun b o hb hg => hk b o ⟨p, hp, hb⟩ hg
  ex := fun {h c} a hc => by
    obtain ⟨p, hp, hb⟩ := hc
    obtain ⟨op, h1⟩ := (a p hp).got hb
    exact ⟨_, h1⟩
def latRow (p : Lat × Value) : List Value := [i64 p.1.reel, p.2]
theorem ints_len' (l : List Nat) : (ints l).length = l.length := List.length_map _
/-- Late reels in memory. -/
theorem lats_of {h0 h : Heap} {v : Value} {P : List (Lat × Value)} (hF : FreshSl h0 h v 61 2 (P.flatMap latRow) P.length) (hB : (lvI h0 P).p h) : ∃ a, v = .slice a P.length P.length ∧ LatsAt h a (P.map Prod.fst) := by
  rcases hF with ⟨rfl, _, hn⟩ | ⟨b, sp, op, rfl, hg, _⟩
  · refine ⟨none, by rw [hn], fun i hi => ?_⟩
    rw [List.length_map, hn] at hi; omega
  · refine ⟨_, rfl, fun i hi => ⟨b, 0, sp, rfl, _, rowAt_cells hg (by rw [Nat.zero_add]; exact cut_flat (by simpa using hi) fun _ _ => rfl), ?_⟩⟩
    have hi' : i < P.length := by simpa using hi
    obtain ⟨a, e, _, hs⟩ := (hB P[i] (List.getElem_mem hi')).srcAt
    rw [List.getElem_map]
    exact ⟨a, _, by unfold latRow; rw [e], hs⟩
open Classical in
/-- Of the first k kept ones those without which a reel fits. -/
noncomputable def byK (t : Task) (kept : List Nat) (r k : Nat) : List Nat := (List.range k).flatMap fun i => if fitN t (kept.take i ++ kept.drop (i + 1) ++ [r]) then [kept.getD i 0] else []
theorem byK_len (t : Task) (kept : List Nat) (r k : Nat) : (byK t kept r k).length ≤ k := by
  induction k with
  | zero => exact Nat.le_refl _
  | succ k ih =>
    unfold byK at ih ⊢
    rw [List.range_succ, List.flatMap_append, List.length_append, List.flatMap_cons, List.flatMap_nil, List.append_nil]
    refine Nat.add_le_add ih ?_
    split
    · exact Nat.le_refl _
    · exact Nat.zero_le _
open Classical in
theorem byK_succ {t : Task} {kept : List Nat} {r k : Nat} (hk : k < kept.length) : byK t kept r (k + 1) = byK t kept r k ++ if fitN t (kept.take k ++ kept.drop (k + 1) ++ [r]) then [kept[k]] else [] := by
  unfold byK
  rw [List.range_succ, List.flatMap_append, List.flatMap_cons, List.flatMap_nil, List.append_nil, List.getD_eq_getElem?_getD, List.getElem?_eq_getElem hk, Option.getD_some]
set_option maxHeartbeats 8000000 in
theorem refChosen_sv {tc : List Value} {t : Task} {h : Heap} (ht : TaskAt h tc t) (hf : t.Fit) (hV : Valid t) :
    Sv Tryz.prog 64 [.agg ⟨tc⟩] h (RetP fun v h' => ∃ v1 a, v = .tuple ⟨[v1, .slice a (lateL t).length (lateL t).length]⟩ ∧ FreshSl h h' v1 3 1 ((keptI t).map i64) (keptI t).length ∧ LatsAt h' a (lateL t) ∧ Ext h h') := by
  have ht0 := ht
  obtain ⟨am, cm, ar, cr, rfl, hM, hR⟩ := ht
  have hr1 := hV.r1
  have hrs := hf.rs
  refine Sv_wf fun hw => ?_
  refine Sv_enter Tryz.func64 rfl (by rw [Tryz.ntmps64]; rfl) ?_; show Wc Tryz.prog ⟨64, 97, none⟩ _ _ _ _ _
  refine zz ?_
  refine Wo_box rfl rfl rfl fun h1 hE1 hW1 hg1 hn1 => ?_
  refine zz ?_
  refine Wo_callr rfl rfl rfl rfl rfl Bod.h rfl rfl (refOrder_sv (ht0.ext hE1) hf hV) ?_
  rintro v4 h2 ⟨ord, hF4, hp4, hb4, hE2⟩
  obtain rfl := ord_eq hp4 hb4
  have hO1 := (Own.nil h h).newCe hw (Nat.le_refl _) hE1 hg1 (Nat.le_refl _)
  have hO2 := hO1.newSl hW1 hE1.2.1 hE2 hF4
  replace hg1 := hE2.get hg1
  replace hE1 := hE1.trans hE2
  clear hW1 hn1 hE2 hO1 hF4
  clear h1
  refine Wo_wf fun hW2 => ?_
  refine zz ?_
  refine Wo_makeSlice (k := t.reels.length) rfl rfl Und.h (by' := 24) inferInstance Zr.h rfl rfl rfl (by omega) (by omega) fun h3 hE3 hW3 hg3 hx3 => ?_
  refine zz ?_
  have hB3 : ByAt h h3 t.reels.length h2.nx (fun _ => .slice none 0 0) (fun _ => []) := by
    refine ⟨?_, fun _ _ => FreshSl.nil _ _ _ _, (fun _ _ _ _ _ hb => nomatch hb), hE1.2.1⟩
    rw [hg3]
    congr 2
    exact rep_range _ _
  have hO3 := (hO2.new (y := byI h t.reels.length h2.nx (fun _ => .slice none 0 0) (fun _ => [])) hW2 hE1.2.1 hE3 hB3 fun c hc => by
    rcases hc with rfl | ⟨r, _, hb⟩
    · exact Nat.le_refl _
    · cases hb).nilSl 3 1
  replace hE1 := hE1.trans hE3
  clear hE3 hW3 hg3 hx3 hO2 hg1 hB3
  generalize h2.nx = ob at *
  clear hW2
  clear h2
  have hol : (ordN t).length = t.reels.length := by rw [hp4.length_eq, List.length_range]
  have horn : ∀ r ∈ ordN t, r < t.reels.length := fun r hr => mem_ordN.1 hr
  have hond : (ordN t).Nodup := ordN_nodup t
  generalize hord : ordN t = ord at *
  refine Wc_loop (fun (i : Nat) m ds h' => ds = [] ∧ i ≤ ord.length ∧ Ext h h' ∧
      ∃ (v5 : Value) (L : Nat → Value) (G : Nat → List Nat), Own h h' [slI h v5 3 1 ((goN t (ord.take i)).1.map fun (r : Nat) => i64 r) (goN t (ord.take i)).1.length, byI h t.reels.length ob L G, slI h v4 3 1 (ord.map fun (r : Nat) => i64 r) ord.length, ceI h.nx [i64 t.first, i64 t.days, .slice am t.machines.length cm, .slice ar t.reels.length cr] 25 false] ∧ (∀ p ∈ (goN t (ord.take i)).2, G p.1 = p.2) ∧ (∀ r, r ∉ (goN t (ord.take i)).2.map Prod.fst → G r = []) ∧
      AllK m [(1, ptr h.nx), (4, v4), (5, v5), (6, .slice (some ⟨ob, 0, none⟩) t.reels.length t.reels.length), (7, i64 i)]) (fun i => ord.length - i) 0 ?_ ?_
  · exact ⟨rfl, Nat.zero_le _, hE1, _, _, _, hO3, (fun p hp => (List.not_mem_nil (show p ∈ ([] : List (Nat × List Nat)) from hp)).elim), (fun _ _ => rfl), rfl, rfl, rfl, rfl, rfl, trivial⟩
  clear hO3 hE1
  clear h3
  rintro i m ds h1 ⟨rfl, hi, hE1, v5, L, G, hO, hG1, hG2, hall⟩
  refine Wc_wf fun hw1 => ?_
  refine Wc.le ?_ (Le.kn hall)
  have hF5 := hO.p1
  have hB := hO.p2
  have hF4 := hO.p3
  have hg1 := hO.p4
  change FreshSl h h1 v5 3 1 _ _ at hF5
  change ByAt h h1 t.reels.length ob L G at hB
  change FreshSl h h1 v4 3 1 _ _ at hF4
  change h1.get h.nx = _ at hg1
  obtain ⟨a4, rfl, _, hs4⟩ := hF4.srcAt
  refine zz ?_
  refine Wo_dec rfl rfl rfl rfl (A_lss rfl rfl) (fun hip => ?_) (fun hip => ?_)
  rotate_left
  · have : i = ord.length := by omega
    subst this
    rw [List.take_length] at hO hF5 hG1 hG2
    subst hord
    clear hs4 hB hF4 hg1 hip
    rw [nats_map] at hF5
    have hkl : (ints (goT t).1).length = (goT t).1.length := ints_len' _
    have hkn : (goT t).1.length ≤ t.reels.length := by
      have := (goT_sub t).length_le
      omega
    rw [← hkl] at hF5
    obtain ⟨a5, rfl, _, hs5⟩ := hF5.srcAt
    replace hO := ((hO.sub (.cons_cons _ (.cons_cons _ (.cons _ (.refl _))))).new (y := lvI h []) hw1 hE1.2.1 (Ext.refl _) (fun _ hp => nomatch hp) (fun c hc => by obtain ⟨p, hp, _⟩ := hc; cases hp)).nilSl 61 2
    refine zz ?_
    refine Wc_loop (fun (k : Nat) m ds h' => ds = [] ∧ k ≤ t.reels.length ∧ Ext h h' ∧
        ∃ (v9 : Value) (P : List (Lat × Value)), Own h h' [slI h v9 61 2 (P.flatMap latRow) P.length, lvI h P, slI h (.slice a5 (ints (goT t).1).length (ints (goT t).1).length) 3 1 ((goT t).1.map fun (r : Nat) => i64 r) (goT t).1.length, byI h t.reels.length ob L G, ceI h.nx [i64 t.first, i64 t.days, .slice am t.machines.length cm, .slice ar t.reels.length cr] 25 false] ∧
        P.map Prod.fst = ((List.range k).filter fun (r : Nat) => !decide ((r : Int) ∈ keptI t)).map (latOf t) ∧
        AllK m [(1, ptr h.nx), (5, .slice a5 (ints (goT t).1).length (ints (goT t).1).length), (6, .slice (some ⟨ob, 0, none⟩) t.reels.length t.reels.length), (9, v9), (10, i64 k)]) (fun k => t.reels.length - k) 0 ?_ ?_
    · exact ⟨rfl, Nat.zero_le _, hE1, _, [], hO, rfl, rfl, rfl, rfl, rfl, rfl, trivial⟩
    clear hO hE1 hs5 hw1 hF5 hall
    clear h1 m
    rintro k m ds h1 ⟨rfl, hk, hE1, v9, P, hO, hP, hall⟩
    refine Wc_wf fun hw1 => ?_
    refine Wc.le ?_ (Le.kn hall)
    have hg1 : h1.get h.nx = _ := hO.up4.dn4.tail.p4
    have hF5 : FreshSl h h1 _ 3 1 _ _ := hO.p3
    have hB : ByAt h h1 t.reels.length ob L G := hO.p4
    rw [nats_map, ← hkl] at hF5
    obtain ⟨a5', e5, _, hs5⟩ := hF5.srcAt
    simp only [Value.slice.injEq] at e5
    obtain ⟨rfl, _, _⟩ := e5
    have hPl : P.length ≤ k := by
      have := congrArg List.length hP
      rw [List.length_map, List.length_map] at this
      rw [this]
      exact Nat.le_trans (List.length_filter_le _ _) (by rw [List.length_range]; exact Nat.le_refl _)
    refine zz ?_
    refine Wo_dec rfl rfl rfl rfl (A_lss rfl rfl) (fun hkq => ?_) (fun hkq => ?_)
    rotate_left
    · have hkk : k = t.reels.length := by omega
      subst hkk
      refine zz ?_
      refine Wo_callr rfl rfl rfl rfl rfl Bod.h rfl rfl (refSorted_sv hs5.1 (by omega)) ?_
      rintro v95 h2 ⟨s, hFs, hps, hss, hE2⟩
      obtain rfl := sortI_eq hps hss
      obtain ⟨a9, rfl, hL9⟩ := lats_of hO.p1 hO.p2
      have hPL : P.map Prod.fst = lateL t := hP
      have hPn : P.length = (lateL t).length := by rw [← hPL, List.length_map]
      rw [hPL] at hL9
      refine zz ?_
      rw [hPn]
      exact Wc_ret (Lv_ret rfl ⟨_, a9, rfl, hFs.base hE1.2.1, hL9.ext hE2, hE1.trans hE2⟩)
    have hk' : k < t.reels.length := by omega
    refine zz ?_
    refine Wo_callr rfl rfl rfl rfl rfl Bod.h rfl rfl (has_sv (n := (k : Nat)) hs5.1 (by show _ < _; omega)) ?_
    rintro _ h2 ⟨rfl, rfl⟩
    have hmk : ((k : Int) ∈ ints (goT t).1) ↔ (k : Int) ∈ keptI t := by rw [mem_keptI, mem_ints]
    by_cases hin : (k : Int) ∈ ints (goT t).1
    · rw [decide_eq_true hin]
      refine zz ?_
      refine ⟨k + 1, ?_, rfl, hk', hE1, v9, P, hO, ?_, rfl, rfl, rfl, rfl, rfl, trivial⟩
      · show t.reels.length - (k + 1) < t.reels.length - k; omega
      · rw [hP, List.range_succ, List.filter_append, List.filter_cons, if_neg (by simp [hmk.1 hin])]
        simp
    rw [decide_eq_false hin]
    have hLk := hB.oc hk'
    obtain ⟨ak, ek, _, hsk⟩ := (by have := hB.leaf k hk'; rw [nats_map, ← ints_len' (G k)] at this; exact this : FreshSl h h2 (L k) 3 1 ((ints (G k)).map i64) (ints (G k)).length).srcAt
    have hkl8 : k ∈ lateN t := List.mem_filter.2 ⟨List.mem_range.2 hk', by rw [decide_eq_false fun g => hin (hmk.2 g)]; rfl⟩
    have hGk : G k = byOf t k := by
      obtain ⟨p, hp, e⟩ := List.mem_map.1 (late_iff.1 hkl8)
      rw [← e, hG1 p hp, byOf_mem hp]
    have hGl : (G k).length < 1000000 := by
      obtain ⟨h1, h2, _⟩ := late_law hV hkl8
      have := nodup_le h1 fun x hx => (h2 x hx).1
      rw [hGk]; omega
    rw [ek] at hLk
    refine zz ?_
    refine Wo_do rfl rfl rfl rfl (A_ix Und.h Tsz.h rfl rfl) ?_
    refine zz ?_
    refine Wo_callr rfl rfl rfl rfl rfl Bod.h rfl rfl (refSorted_sv hsk.1 (by rw [ints_len']; exact hGl)) ?_
    rintro v90 h3 ⟨s, hFs, hps, hss, hE3⟩
    obtain rfl := sortI_eq hps hss
    have hO3 := hO.newSl hw1 hE1.2.1 hE3 hFs
    obtain ⟨a90, rfl, _, _⟩ := hFs.is
    replace hE1 := hE1.trans hE3
    clear hFs hE3
    refine zz ?_
    refine Wo_do rfl rfl rfl rfl (A_build rfl rfl) ?_
    refine Wo_bs rfl rfl Und.h Tsz.h Zr.h rfl rfl rfl rfl rfl fun h4 hE4 hW4 hg4 hx4 => ?_
    refine zz ?_
    refine Wo_appendO (by' := 32) (sz := 2) (k := 1) (n := P.length) (l := [i64 (k : Nat), .slice a90 (sortI (ints (G k))).length (sortI (ints (G k))).length]) hw (hE1.trans hE4) rfl rfl rfl rfl rfl Und.h inferInstance rfl rfl (hO3.up2.ext hE4) ((FreshSl.lit (h0 := h) (n := 1) (sz := 2) (cs := [i64 (k : Nat), .slice a90 (sortI (ints (G k))).length (sortI (ints (G k))).length]) hg4 rfl hE1.2.1).src (dd := .slice 61) Und.h (by intro k; simp)) rfl rfl (by omega) (by omega) fun v10 h10 hW10 hO10 hE10 => ?_
    have hO11 := (hO10.dn3.merge (z := lvI h (P ++ [(latOf t k, .slice a90 (sortI (ints (G k))).length (sortI (ints (G k))).length)])) (fun hx hy p hp => by
      rcases List.mem_append.1 hp with g | g
      · exact hy p g
      · rw [List.mem_singleton.1 g]
        have e : (latOf t k).by' = sortI (ints (G k)) := by rw [hGk]; rfl
        show FreshSl h h10 _ 3 1 ((latOf t k).by'.map i64) (latOf t k).by'.length
        rw [e]
        exact hx) (fun c hc => by
      obtain ⟨p, hp, hb⟩ := hc
      rcases List.mem_append.1 hp with g | g
      · exact .inr ⟨p, g, hb⟩
      · rw [List.mem_singleton.1 g] at hb; exact .inl hb)).up2
    refine zz ?_
    refine ⟨k + 1, ?_, rfl, hk', hE10, v10, P ++ [(latOf t k, .slice a90 (sortI (ints (G k))).length (sortI (ints (G k))).length)], ?_, ?_, rfl, rfl, rfl, rfl, rfl, trivial⟩
    · show t.reels.length - (k + 1) < t.reels.length - k; omega
    · rw [List.flatMap_append, List.length_append]
      exact hO11
    · rw [List.map_append, hP, List.range_succ, List.filter_append, List.map_append, List.filter_cons, if_pos (by rw [decide_eq_false fun g => hin (hmk.2 g)]; rfl)]
      rfl
  have hi' : i < ord.length := by omega
  obtain ⟨b4, o4, oa4, rfl, hc4⟩ := hs4.1 i hi'
  generalize hkp : (goN t (ord.take i)).1 = kp at *
  have hksub : kp.Sublist ord := by rw [← hkp]; exact (goN_sub t _).trans (List.take_sublist _ _)
  have hkl := hksub.length_le
  have hri := horn _ (List.getElem_mem hi')
  rw [nats_map] at hF5
  have hkm : (kp.map fun (r : Nat) => (r : Int)).length = kp.length := List.length_map _
  rw [← hkm] at hF5
  obtain ⟨a5, rfl, _, hs5⟩ := hF5.srcAt
  have hw5 := refWith_sv (x := (ord[i] : Nat)) (cap := (kp.map fun (r : Nat) => (r : Int)).length) hs5 (by omega)
  refine zz ?_
  refine Wc_draw hmix [0, 0, 0, 0, 12, 28, 62, 127] [0, 1, 2, 3, 4, 5] (some 6) [([], (some 7)), ([], none)] (by kernel_rfl) (by kernel_rfl) ?_
  refine z_r ?_; refine z_m ?_; refine z_m ?_; refine z_m ?_; refine z_i ?_; refine z_l ?_
  refine Wp_eff [1, 2, 3, 4, 5] (by kernel_rfl) rfl (Stl_nil rfl) rfl nb rfl (W1_call rfl rfl rfl rfl rfl Bod.h hw5 (fun v6 h6 hv => ?_) (fun _ _ hR => hR.elim))
  obtain ⟨hF6, hE6⟩ := hv
  have hg16 := hE6.get hg1
  have hcs : (kp.map fun (r : Nat) => (r : Int)) ++ [((ord[i] : Nat) : Int)] = (kp ++ [ord[i]]).map fun (r : Nat) => (r : Int) := by simp
  have hknd : (kp ++ [ord[i]]).Nodup := by
    have h1 : (ord.take (i + 1)).Nodup := hond.sublist (List.take_sublist _ _)
    rw [take_succ hi'] at h1
    exact h1.sublist ((by rw [← hkp]; exact goN_sub t _ : kp.Sublist (ord.take i)).append (List.Sublist.refl _))
  have hkr : ∀ x ∈ kp ++ [ord[i]], x < t.reels.length := fun x hx => by
    rcases List.mem_append.1 hx with g | g
    · exact horn x (hksub.subset g)
    · rw [List.mem_singleton.1 g]; exact hri
  rw [hcs] at hF6
  obtain ⟨a6, rfl, _, hs6⟩ := hF6.srcAt
  have hfit := refFitsIn_sv (cap := ((kp ++ [ord[i]]).map fun (r : Nat) => (r : Int)).length) (ht0.ext (hE1.trans hE6)) hf hV hs6.1 (map_nodup (fun a _ b _ e => by omega) hknd) (fun x hx => by
    obtain ⟨r, hr, rfl⟩ := List.mem_map.1 hx
    have := hkr r hr; omega) (by rw [List.length_map, List.length_append]; simp; omega)
  rw [natsL_cast] at hfit
  refine Wp_eff [0, 1, 2, 3, 4, 5, 6] (by kernel_rfl) rfl (by refine t_r 0 ?_; exact Stl_nil rfl) rfl nb rfl (W1_call rfl rfl rfl rfl rfl Bod.h hfit (fun v7 h7 hv => ?_) (fun _ _ hR => hR.elim))
  obtain ⟨b7, rfl, hb7, hE7⟩ := hv
  refine Wp_end (Stl_nil rfl) nb' ?_
  have hE17 := hE6.trans hE7
  replace hO := hO.ext hE17
  replace hc4 := hE17.cell hc4
  replace hE1 := hE1.trans hE17
  clear hg16 hE6 hE7 hE17 hF6 hs6 hfit hw5 hB hF4 hg1 hF5 hs5 hs4
  clear hw1
  clear h1
  cases b7
  rotate_left
  · have hfn : fitN t (kp ++ [ord[i]]) := hb7.1 rfl
    refine zz ?_
    refine Wo_do rfl rfl rfl rfl (A_ix Und.h Tsz.h rfl rfl) ?_
    refine zz ?_
    refine Wo_bs rfl rfl Und.h Tsz.h Zr.h rfl rfl rfl rfl rfl fun h8 hE8 hW8 hg8 hx8 => ?_
    refine zz ?_
    refine Wo_appendO (by' := 8) (k := 1) (n := kp.length) (l := [i64 (ord[i] : Nat)]) hw (hE1.trans hE8) rfl rfl rfl rfl rfl Und.h inferInstance rfl rfl (hO.ext hE8) ((FreshSl.lit (h0 := h) (n := 1) (sz := 1) (cs := [i64 (ord[i] : Nat)]) hg8 rfl hE1.2.1).src (dd := .slice 3) Und.h (by intro k; simp)) rfl rfl (by omega) (by omega) fun v9 h9 hW9 hO9 hE9 => ?_
    refine zz ?_
    have hgo : goN t (ord.take (i + 1)) = (kp ++ [ord[i]], (goN t (ord.take i)).2) := by
      rw [take_succ hi', goN_snoc, stepN, hkp, if_pos hfn]
    refine ⟨i + 1, ?_, rfl, hi', hE9, v9, L, G, ?_, ?_, ?_, rfl, rfl, rfl, rfl, rfl, trivial⟩
    · show ord.length - (i + 1) < ord.length - i; omega
    · rw [hgo, List.map_append, List.length_append]; exact hO9
    · rw [hgo]; exact hG1
    · rw [hgo]; exact hG2
  have hnf : ¬ fitN t (kp ++ [ord[i]]) := fun g => nomatch hb7.2 g
  have hrnk : ord[i] ∉ kp := fun g => by
    have := List.nodup_append.1 hknd
    exact this.2.2 _ g _ (by simp) rfl
  have hrl : ord[i] ∉ (goN t (ord.take i)).2.map Prod.fst := fun g => by
    have h1 := (goN_keys t _).subset g
    have h2 : (ord.take (i + 1)).Nodup := hond.sublist (List.take_sublist _ _)
    rw [take_succ hi', List.nodup_append] at h2
    exact h2.2.2 _ h1 _ (by simp) rfl
  have hGr := hG2 _ hrl
  have hknd' : kp.Nodup := (List.nodup_append.1 hknd).1
  have hgo : goN t (ord.take (i + 1)) = (kp, (goN t (ord.take i)).2 ++ [(ord[i], byN t kp ord[i])]) := by
    rw [take_succ hi', goN_snoc, stepN, hkp, if_neg hnf]
  clear hb7
  refine zz ?_
  refine Wc_loop (fun (k : Nat) m ds h' => ds = [] ∧ k ≤ kp.length ∧ Ext h h' ∧
      ∃ (L : Nat → Value), Own h h' [slI h (.slice a5 (kp.map fun (r : Nat) => (r : Int)).length (kp.map fun (r : Nat) => (r : Int)).length) 3 1 (kp.map fun (r : Nat) => i64 r) kp.length, byI h t.reels.length ob L (updN G ord[i] (byK t kp ord[i] k)), slI h (.slice (some ⟨b4, o4, oa4⟩) ord.length ord.length) 3 1 (ord.map fun (r : Nat) => i64 r) ord.length, ceI h.nx [i64 t.first, i64 t.days, .slice am t.machines.length cm, .slice ar t.reels.length cr] 25 false] ∧
      AllK m [(1, ptr h.nx), (4, .slice (some ⟨b4, o4, oa4⟩) ord.length ord.length), (5, .slice a5 (kp.map fun (r : Nat) => (r : Int)).length (kp.map fun (r : Nat) => (r : Int)).length), (6, .slice (some ⟨ob, 0, none⟩) t.reels.length t.reels.length), (7, i64 i), (8, i64 k)]) (fun k => kp.length - k) 0 ?_ ?_
  · refine ⟨rfl, Nat.zero_le _, hE1, L, ?_, rfl, rfl, rfl, rfl, rfl, rfl, trivial⟩
    have e : updN G ord[i] (byK t kp ord[i] 0) = G := by
      funext x
      by_cases hx : x = ord[i]
      · rw [hx, updN_same, hGr]; rfl
      · rw [updN_other _ _ hx]
    rw [e]; exact hO
  clear hO hE1 hc4 hall
  clear h7 m
  rintro k m ds h1 ⟨rfl, hk, hE1, L', hO, hall⟩
  refine Wc_wf fun hw1 => ?_
  refine Wc.le ?_ (Le.kn hall)
  have hF5 : FreshSl h h1 _ 3 1 _ _ := hO.p1
  have hB : ByAt h h1 t.reels.length ob L' _ := hO.p2
  have hF4 : FreshSl h h1 _ 3 1 _ _ := hO.p3
  have hg1 : h1.get h.nx = _ := hO.p4
  rw [nats_map, ← hkm] at hF5
  refine zz ?_
  refine Wo_dec rfl rfl rfl rfl (A_lss rfl rfl) (fun hkq => ?_) (fun hkq => ?_)
  rotate_left
  · have hkk : k = kp.length := by omega
    subst hkk
    refine zz ?_
    refine ⟨i + 1, ?_, rfl, hi', hE1, _, L', updN G ord[i] (byN t kp ord[i]), ?_, ?_, ?_, rfl, rfl, rfl, rfl, rfl, trivial⟩
    · show ord.length - (i + 1) < ord.length - i; omega
    · rw [hgo]; exact hO
    · rw [hgo]
      intro p hp
      rcases List.mem_append.1 hp with g | g
      · rw [updN_other _ _ (fun e => hrl (List.mem_map.2 ⟨p, g, e⟩))]; exact hG1 p g
      · rw [List.mem_singleton.1 g, updN_same]
    · rw [hgo]
      intro x hx
      simp only [List.map_append, List.map_cons, List.map_nil, List.mem_append, List.mem_singleton, not_or] at hx
      rw [updN_other _ _ hx.2]; exact hG2 x hx.1
  have hk' : k < kp.length := by omega
  have hkr' : ∀ x ∈ kp, x < t.reels.length := fun x hx => horn x (hksub.subset hx)
  obtain ⟨a4', e4, _, hs4⟩ := hF4.srcAt
  simp only [Value.slice.injEq] at e4
  obtain ⟨rfl, _, _⟩ := e4
  obtain ⟨b4', o4', oa4', e4', hc4⟩ := hs4.1 i hi'
  cases e4'
  have hkm' : k < (kp.map fun (r : Nat) => (r : Int)).length := by rw [hkm]; exact hk'
  have hwo := refWithout_sv (i := k) hF5 hkm' (by omega)
  refine zz ?_
  refine Wc_draw hmix [0, 0, 0, 6, 0, 0, 48, 112, 254, 511] [0, 1, 2, 4, 5, 6, 7] (some 3) [([], (some 8)), ([], (some 9)), ([], none)] (by kernel_rfl) (by kernel_rfl) ?_
  refine z_r ?_; refine z_m ?_; refine z_m ?_; refine z_m ?_; refine z_m ?_; refine z_i ?_; refine z_l ?_
  refine Wp_eff [1, 2] (by kernel_rfl) rfl (Stl_nil rfl) rfl nb rfl (W1_call rfl rfl rfl rfl rfl Bod.h hwo (fun v6 h6 hv => ?_) (fun _ _ hR => hR.elim))
  obtain ⟨hF6, hE6⟩ := hv
  have hcq : ((kp.map fun (r : Nat) => (r : Int)).take k ++ (kp.map fun (r : Nat) => (r : Int)).drop (k + 1)) = (kp.take k ++ kp.drop (k + 1)).map fun (r : Nat) => (r : Int) := by rw [List.map_append, List.map_take, List.map_drop]
  rw [hcq] at hF6
  obtain ⟨a6, rfl, _, hs6⟩ := hF6.srcAt
  replace hc4 := hE6.cell hc4
  replace hg1 := hE6.get hg1
  have hw6 := refWith_sv (x := (ord[i] : Nat)) (cap := ((kp.take k ++ kp.drop (k + 1)).map fun (r : Nat) => (r : Int)).length) hs6 (by simp; omega)
  refine Wp_eff [1, 2, 3, 4, 5, 6, 7] (by kernel_rfl) rfl (by refine t_l 7 ?_; refine t_i 6 ?_; refine t_m 5 ?_; refine t_m 4 ?_; refine t_r 0 ?_; exact Stl_nil rfl) rfl nb rfl (W1_call rfl rfl rfl rfl rfl Bod.h hw6 (fun v7 h7 hv => ?_) (fun _ _ hR => hR.elim))
  obtain ⟨hF7, hE7⟩ := hv
  have hcs7 : ((kp.take k ++ kp.drop (k + 1)).map fun (r : Nat) => (r : Int)) ++ [((ord[i] : Nat) : Int)] = (kp.take k ++ kp.drop (k + 1) ++ [ord[i]]).map fun (r : Nat) => (r : Int) := by simp
  have hsubk : (kp.take k ++ kp.drop (k + 1)).Sublist kp := by
    conv => rhs; rw [← List.take_append_drop k kp]
    exact (List.Sublist.refl _).append (by rw [List.drop_eq_getElem_cons hk']; exact List.sublist_cons_self _ _)
  have hqnd : (kp.take k ++ kp.drop (k + 1) ++ [ord[i]]).Nodup := hknd.sublist (hsubk.append (List.Sublist.refl _))
  have hqr : ∀ x ∈ kp.take k ++ kp.drop (k + 1) ++ [ord[i]], x < t.reels.length := fun x hx => hkr x ((hsubk.append (List.Sublist.refl _)).subset hx)
  rw [hcs7] at hF7
  obtain ⟨a7, rfl, _, hs7⟩ := hF7.srcAt
  have hE67 := hE6.trans hE7
  have hfit := refFitsIn_sv (cap := ((kp.take k ++ kp.drop (k + 1) ++ [ord[i]]).map fun (r : Nat) => (r : Int)).length) (ht0.ext (hE1.trans hE67)) hf hV hs7.1 (map_nodup (fun a _ b _ e => by omega) hqnd) (fun x hx => by
    obtain ⟨r, hr, rfl⟩ := List.mem_map.1 hx
    have := hqr r hr; omega) (by simp; omega)
  rw [natsL_cast] at hfit
  replace hg1 := hE7.get hg1
  refine Wp_eff [0, 1, 2, 3, 4, 5, 6, 7, 8] (by kernel_rfl) rfl (by refine t_r 0 ?_; exact Stl_nil rfl) rfl nb rfl (W1_call rfl rfl rfl rfl rfl Bod.h hfit (fun v8 h8 hv => ?_) (fun _ _ hR => hR.elim))
  obtain ⟨b8, rfl, hb8, hE8⟩ := hv
  refine Wp_end (Stl_nil rfl) nb' ?_
  have hE18 := hE67.trans hE8
  replace hO := hO.ext hE18
  replace hE1 := hE1.trans hE18
  clear hE6 hE7 hE67 hE8 hE18 hF6 hF7 hs6 hs7 hfit hw6 hwo hc4 hg1 hB hF5 hF4 hs4 hw1 hall
  clear h7 h6 h1 m
  refine Wc_wf fun hw1 => ?_
  cases b8
  · refine zz ?_
    have hnf8 : ¬ fitN t (kp.take k ++ kp.drop (k + 1) ++ [ord[i]]) := fun g => nomatch hb8.2 g
    refine ⟨k + 1, ?_, rfl, hk', hE1, L', ?_, rfl, rfl, rfl, rfl, rfl, rfl, trivial⟩
    · show kp.length - (k + 1) < kp.length - k; omega
    · rw [byK_succ hk', if_neg hnf8, List.append_nil]; exact hO
  have hfn8 : fitN t (kp.take k ++ kp.drop (k + 1) ++ [ord[i]]) := hb8.1 rfl
  have hF5 : FreshSl h h8 _ 3 1 _ _ := hO.p1
  have hB : ByAt h h8 t.reels.length ob L' _ := hO.p2
  have hF4 : FreshSl h h8 _ 3 1 _ _ := hO.p3
  obtain ⟨a4', e4, _, hs4⟩ := hF4.srcAt
  simp only [Value.slice.injEq] at e4
  obtain ⟨rfl, _, _⟩ := e4
  obtain ⟨b4', o4', oa4', e4', hc4⟩ := hs4.1 i hi'
  cases e4'
  obtain ⟨a5', e5, _, hs5⟩ := hF5.srcAt
  simp only [Value.slice.injEq] at e5
  obtain ⟨rfl, _, _⟩ := e5
  obtain ⟨b5', o5', oa5', e5', hc5⟩ := hs5.1 k hk'
  cases e5'
  have hLr := hB.oc hri
  have hEa := Ext.add hw1 (.cells [i64 (kp[k] : Nat)] 3 false)
  have hc4a := hEa.cell hc4
  have hgl : (updN G ord[i] (byK t kp ord[i] k) ord[i]).length ≤ k := by rw [updN_same]; exact byK_len _ _ _ _
  have hLf := hB.leaf _ hri
  refine zz ?_
  refine Wc_draw hmix [0, 0, 0, 6, 14, 0, 0, 0, 192, 448, 992, 2016, 0, 0, 12288, 28672, 61440, 131040, 262143, 524287] [0, 1, 2, 3, 4, 5, 6, 7, 8, 9, 10, 11, 12, 13, 14, 15, 16] (some 17) [([18], (some 19)), ([], none)] (by kernel_rfl) (by kernel_rfl) ?_
  refine z_m ?_; refine z_m ?_; refine z_m ?_; refine z_i ?_; refine z_l ?_; refine z_m ?_; refine z_m ?_; refine z_m ?_; refine z_i ?_; refine z_l ?_; refine z_i ?_; refine z_l ?_; refine z_m ?_; refine z_m ?_; refine z_i ?_; refine z_l ?_
  refine Wp_new (nk := .sl _ _) rfl rfl rfl rfl rfl (fun _ _ hs => N_bs hs Und.h Tsz.h Zr.h rfl rfl rfl rfl rfl) ?_
  refine Wp_eff (h1 := (Heap.add h8 _)) [5, 6, 7, 8, 9, 10, 11, 12, 13, 14, 15, 16] (by kernel_rfl) rfl (Stl_nil rfl) rfl rfl rfl (W1_appendF (by' := 8) (k := 1) (n := (updN G ord[i] (byK t kp ord[i] k) ord[i]).length) (l := [i64 (kp[k] : Nat)]) rfl hw (hw1.add _) (hE1.trans hEa) rfl rfl rfl rfl Und.h inferInstance rfl rfl (hLf.ext hEa) ((FreshSl.lit (h0 := h) (n := 1) (sz := 1) (cs := [i64 (kp[k] : Nat)]) Heap.get_add_same rfl hE1.2.1).src (dd := .slice 3) Und.h (by intro k; simp)) rfl rfl (by omega) (by omega) (fun v9 h9 hF9 hE9 hK9 hx9 hv9 => ?_))
  have hob := (hB.ext hEa).oo hri hK9
  obtain ⟨a9, rfl, _, _⟩ := hF9.is
  obtain ⟨op4, hg4⟩ := hF4.got (b := b4) rfl
  have hg4a := hEa.get hg4
  have hg49 := hK9 _ _ (fun e => (List.pairwise_cons.1 hO.up2.ap).1 _ (List.mem_cons_of_mem _ List.mem_cons_self) b4 (.inr ⟨_, hri, e⟩) rfl) hg4a
  have hc49 := (cellAt_get (hg49.trans hg4a.symm)).trans hc4a
  refine z_i ?_
  refine Wp_eff (h1 := h9) [0, 1, 2, 3, 4, 5, 6, 7, 8, 9, 10, 11, 12, 13, 14, 15, 16, 17, 18] (by kernel_rfl) rfl (by refine t_l 4 ?_; refine t_i 3 ?_; refine t_m 2 ?_; refine t_m 1 ?_; refine t_m 0 ?_; exact Stl_nil rfl) rfl rfl rfl (W1_store rfl rfl Tsz.h rfl rfl hob rfl rfl (lay_one (show 0 + ord[i] * 1 < ((List.range t.reels.length).map L').length by simp only [List.length_map, List.length_range]; omega)) (fun h10 hU10 => ?_))
  refine Wp_end (Stl_nil rfl) rfl ?_
  obtain ⟨hO10, hE10⟩ := hO.up2.pushBy hw hw1 (hw1.add _) hE1 hEa hri hF9 hE9 hK9 hx9 hv9 (by
    rw [Nat.zero_add, Nat.mul_one] at hU10
    exact hU10)
  have e : updN (updN G ord[i] (byK t kp ord[i] k)) ord[i] (updN G ord[i] (byK t kp ord[i] k) ord[i] ++ [kp[k]]) = updN G ord[i] (byK t kp ord[i] (k + 1)) := by
    funext x
    by_cases hx : x = ord[i]
    · rw [hx, updN_same, updN_same, updN_same, byK_succ hk', if_pos hfn8]
    · rw [updN_other _ _ hx, updN_other _ _ hx, updN_other _ _ hx]
  rw [e] at hO10
  refine zz ?_
  exact ⟨k + 1, (by show kp.length - (k + 1) < kp.length - k; omega), rfl, hk', hE10, _, hO10.up2, rfl, rfl, rfl, rfl, rfl, rfl, trivial⟩
end Go.Dw
/- W15: the contract of the reference's turns. -/
namespace Go.Dw
open Go Go.Dx Go.Proofs Go.Mt
set_option maxRecDepth 100000
/-- Machines whose places are the function's own. -/
def mRow (p : Mach × Value) : List Value := [str p.1.name, p.2]
def lfI (h0 : Heap) (p : Mach × Value) : It := slI h0 p.2 3 1 (p.1.places.map i64) p.1.places.length
theorem mats_of {h0 h : Heap} {v : Value} {X : List (Mach × Value)} (hF : FreshSl h0 h v 72 2 (X.flatMap mRow) X.length) (hL : ∀ p ∈ X, FreshSl h0 h p.2 3 1 (p.1.places.map i64) p.1.places.length) : ∃ a, v = .slice a X.length X.length ∧ RowsAt 2 MachAt h a (X.map Prod.fst) := by
  rcases hF with ⟨rfl, _, hn⟩ | ⟨b, sp, op, rfl, hg, _⟩
  · refine ⟨none, by rw [hn], fun i hi => ?_⟩
    rw [List.length_map, hn] at hi; omega
  · refine ⟨_, rfl, fun i hi => ⟨b, 0, sp, rfl, _, rowAt_cells hg (by rw [Nat.zero_add]; exact cut_flat (by simpa using hi) fun _ _ => rfl), ?_⟩⟩
    have hi' : i < X.length := by simpa using hi
    obtain ⟨a, e, _, hs⟩ := (hL X[i] (List.getElem_mem hi')).list
    rw [List.getElem_map]
    exact ⟨a, _, by unfold mRow; rw [e], hs⟩
/-- A machine's cells. -/
theorem machCells {h : Heap} {am : Option Addr} {l : List Mach} (hM : RowsAt 2 MachAt h am l) {k : Nat} (hk : k < l.length) : ∃ b o oa a cap, am = some ⟨b, o, oa⟩ ∧ cellAt h b (o + k * 2 + 0) = some (str l[k].name) ∧ cellAt h b (o + k * 2 + 1) = some (.slice a l[k].places.length cap) ∧ IntsAt h a l[k].places := by
  obtain ⟨b, o, oa, rfl, row, hr, a, cap, rfl, hI⟩ := hM k hk
  exact ⟨b, o, oa, a, cap, rfl, cell_of_row hr rfl, cell_of_row hr rfl, hI⟩
/-- The workshop of these machines. -/
def uOf (t : Task) (X : List (Mach × Value)) : Task := ⟨t.first, t.days, X.map Prod.fst, t.reels⟩
def lowX (X : List (Mach × Value)) (m d : Nat) : List (Mach × Value) := X.modify m fun p => (lowP d p.1, p.2)
theorem uOf_low (t : Task) (X : List (Mach × Value)) (m d : Nat) : uOf t (lowX X m d) = low (uOf t X) m d := by
  unfold uOf lowX low
  congr 1
  apply List.ext_getElem?
  intro i
  simp only [List.getElem?_map, List.getElem?_modify]
  split
  · cases X[i]? <;> rfl
  · cases X[i]? <;> rfl
theorem lowX_set {X : List (Mach × Value)} {m d : Nat} (hm : m < X.length) : lowX X m d = X.set m (lowP d X[m].1, X[m].2) := by
  unfold lowX
  apply List.ext_getElem?
  intro i
  rw [List.getElem?_modify, List.getElem?_set]
  by_cases h : m = i
  · subst h; simp [hm]
  · simp [h]
theorem lowX_rows (X : List (Mach × Value)) (m d : Nat) : (lowX X m d).flatMap mRow = X.flatMap mRow := by
  have : (lowX X m d).map mRow = X.map mRow := by
    unfold lowX
    apply List.ext_getElem?
    intro i
    simp only [List.getElem?_map, List.getElem?_modify]
    split
    · cases X[i]? <;> rfl
    · cases X[i]? <;> rfl
  rw [List.flatMap_def, List.flatMap_def, this]
theorem lowP_cells {d : Nat} {x : Mach} (hd : d < x.places.length) : (lowP d x).places.map i64 = (x.places.map i64).set d (i64 (x.places.getD d 0 - 1)) := by
  unfold lowP
  apply List.ext_getElem?
  intro i
  simp only [List.getElem?_map, List.getElem?_modify, List.getElem?_set, List.length_map]
  by_cases h : d = i
  · subst h; simp [hd, List.getD_eq_getElem?_getD]
  · simp [h]
theorem low_back {d : Nat} {x : Mach} (hd : d < x.places.length) : ((lowP d x).places.map i64).set d (i64 (x.places.getD d 0)) = x.places.map i64 := by
  rw [lowP_cells hd]
  apply List.ext_getElem?
  intro i
  simp only [List.getElem?_map, List.getElem?_set, List.length_map, List.length_set]
  by_cases h : d = i
  · subst h; simp [hd, List.getD_eq_getElem?_getD]
  · simp [h]
theorem set_mid {α : Type} {l : List α} {m : Nat} (hm : m < l.length) (y : α) : l.set m y = l.take m ++ y :: l.drop (m + 1) := by
  apply List.ext_getElem?
  intro i
  rw [List.getElem?_set]
  by_cases h : m = i
  · subst h
    rw [if_pos rfl, if_pos hm, List.getElem?_append_right (by rw [List.length_take]; omega), List.length_take, Nat.min_eq_left (by omega), Nat.sub_self]; rfl
  · rw [if_neg h]
    rcases Nat.lt_or_ge i m with g | g
    · rw [List.getElem?_append_left (by rw [List.length_take]; omega), List.getElem?_take, if_pos g]
    · rw [List.getElem?_append_right (by rw [List.length_take]; omega), List.length_take, Nat.min_eq_left (by omega)]
      obtain ⟨j, rfl⟩ : ∃ j, i = m + 1 + j := ⟨i - (m + 1), by omega⟩
      rw [show m + 1 + j - m = j + 1 by omega, List.getElem?_cons_succ, List.getElem?_drop]
theorem self_mid {α : Type} {l : List α} {m : Nat} (hm : m < l.length) : l = l.take m ++ l[m] :: l.drop (m + 1) := by rw [← List.drop_eq_getElem_cons hm, List.take_append_drop]
/-- A store into the places of one machine. -/
theorem Own.leafSet {h h1 h2 : Heap} {L : List It} {X : List (Mach × Value)} {m b o : Nat} {sp : Option Nat} {op : Bool} {x : Mach} (hO : Own h h1 (L ++ X.map (lfI h))) (hm : m < X.length) (hw : WF h1) (he0 : Ext h h1) (hw0 : WF h) (hv : X[m].2 = .slice (some ⟨b, o, sp⟩) X[m].1.places.length X[m].1.places.length) (hl : x.places.length = X[m].1.places.length) (hU : Upd h1 b (.cells (x.places.map i64) 3 op) h2) :
    Own h h2 (L ++ (X.set m (x, X[m].2)).map (lfI h)) ∧ Ext h h2 := by
  have e : L ++ X.map (lfI h) = (L ++ (X.take m).map (lfI h)) ++ lfI h X[m] :: (X.drop (m + 1)).map (lfI h) := by
    conv => lhs; rw [self_mid hm]
    rw [List.map_append, List.map_cons, List.append_assoc]
  rw [e] at hO
  have h3 := hO.mid
  have e2 : lfI h X[m] = slI h (.slice (some ⟨b, o, sp⟩) X[m].1.places.length X[m].1.places.length) 3 1 (X[m].1.places.map i64) X[m].1.places.length := by unfold lfI; rw [hv]
  rw [e2] at h3
  obtain ⟨h4, h5⟩ := h3.setSl hw he0 hw0 hU (by rw [List.length_map, List.length_map, hl])
  refine ⟨?_, h5⟩
  rw [set_mid hm, List.map_append, List.map_cons, ← List.append_assoc]
  have e3 : lfI h (x, X[m].2) = slI h (.slice (some ⟨b, o, sp⟩) X[m].1.places.length X[m].1.places.length) 3 1 (x.places.map i64) X[m].1.places.length := by unfold lfI; rw [hv, hl]
  rw [e3]
  exact h4.dim
theorem fit_uOf {t : Task} {X : List (Mach × Value)} (hf : t.Fit) (hL : Lowd t (uOf t X)) (hV : Valid t) (hN : ∀ p ∈ X, Len p.1.name) : (uOf t X).Fit := by
  have hU := hL.valid hV
  have h1 := hU.m1
  have h2 := hU.d1
  refine ⟨hf.first, hf.days, by show _ < _; omega, hf.rs, fun m hm => ?_, hf.rsF⟩
  obtain ⟨p, hp, rfl⟩ := List.mem_map.1 (show m ∈ X.map Prod.fst from hm)
  have h3 := hU.ms p.1 hm
  exact ⟨hN p hp, by show _ < _; omega, fun n hn => by have := h3.2 n hn; constructor <;> omega⟩
theorem task_of {t : Task} {h h1 : Heap} {v5 : Value} {X : List (Mach × Value)} {ar : Option Addr} {cr : Nat} (hF : FreshSl h h1 v5 72 2 (X.flatMap mRow) X.length) (hL : ∀ p ∈ X, (lfI h p).p h1) (hR : RowsAt 5 ReelAt h ar t.reels) (he : Ext h h1) : TaskAt h1 [i64 t.first, i64 t.days, v5, .slice ar t.reels.length cr] (uOf t X) := by
  obtain ⟨a, rfl, hM⟩ := mats_of hF hL
  refine ⟨a, X.length, ar, cr, ?_, hM, RowsAt.ext (fun a e => a.ext e) hR he⟩
  show _ = [_, _, Value.slice a (X.map Prod.fst).length X.length, _]
  rw [List.length_map]; rfl
def tRow (x : Turn) : List Value := [i64 x.reel, i64 x.machine, i64 x.day]
theorem turns_of {h0 h : Heap} {v : Value} {T : List Turn} (hF : FreshSl h0 h v 59 3 (T.flatMap tRow) T.length) : ∃ a, v = .slice a T.length T.length ∧ TurnsAt h a T := by
  rcases hF with ⟨rfl, _, hn⟩ | ⟨b, sp, op, rfl, hg, _⟩
  · exact ⟨none, by rw [hn], fun i hi => by omega⟩
  · exact ⟨_, rfl, fun i hi => ⟨b, 0, sp, rfl, _, rowAt_cells hg (by rw [Nat.zero_add]; exact cut_flat hi fun _ _ => rfl), rfl⟩⟩
/-- What a search for a turn has come to. -/
def TurnSt (t : Task) (X : List (Mach × Value)) (T : List Turn) (r : Nat) (rest : List Nat) (before : Nat → Nat → Prop) (dn : Bool) (X' : List (Mach × Value)) (T' : List Turn) : Prop :=
  (dn = false ∧ X' = X ∧ T' = T ∧ ∀ d m, before d m → okC (uOf t X) r rest (d, m) = false) ∨ (dn = true ∧ ∃ d m, turnC (uOf t X) r rest = some (d, m) ∧ X' = lowX X m d ∧ T' = T ++ [⟨r, m, t.first + d⟩])
set_option maxHeartbeats 8000000 in
theorem refTurns_sv {tc : List Value} {t : Task} {v1 : Value} {K : List Nat} {h0 h : Heap} (ht : TaskAt h tc t) (hf : t.Fit) (hV : Valid t) (hFK : FreshSl h0 h v1 3 1 ((ints K).map i64) (ints K).length) (hKn : K.Nodup) (hKl : ∀ r ∈ K, r < t.reels.length) :
    Sv Tryz.prog 65 [.agg ⟨tc⟩, v1] h (RetP fun v h' => ∃ a, v = .slice a (turnsG t K).length (turnsG t K).length ∧ TurnsAt h' a (turnsG t K) ∧ Ext h h') := by
  have ht0 := ht
  obtain ⟨am, cm, ar, cr, rfl, hM, hR⟩ := ht
  have hr1 := hV.r1
  have hm1 := hV.m1
  have hrs := hf.rs
  have hd1 := hV.d1
  have hd0 := hV.d0
  refine Sv_wf fun hw => ?_
  refine Sv_enter Tryz.func65 rfl (by rw [Tryz.ntmps65]; rfl) ?_; show Wc Tryz.prog ⟨65, 132, none⟩ _ _ _ _ _
  refine zz ?_
  refine Wo_box rfl rfl rfl fun h1 hE1 hW1 hg1 hn1 => ?_
  refine zz ?_
  have hO1 := (Own.nil h h).newCe hw (Nat.le_refl _) hE1 hg1 (Nat.le_refl _)
  refine Wo_allocStore rfl rfl Zr.h Tsz.h rfl (fun _ => rfl) rfl rfl rfl fun h2 hE2 hW2 hg2 hn2 => ?_
  refine zz ?_
  have hO2 := hO1.newCe hW1 hE1.2.1 hE2 hg2 (Nat.le_refl _)
  replace hE1 := hE1.trans hE2
  generalize h.nx = b2 at *
  generalize h1.nx = b5 at *
  clear hg1 hW1 hn1 hO1 hE2 hn2 hg2 hW2
  clear h1
  refine Wo_storeO hw hE1 rfl Tsz.h rfl rfl hO2 rfl rfl rfl fun h3 hW3 hO3 hE3 => ?_
  clear hO2 hE1
  clear h2
  refine zz ?_
  refine Wc_loop (fun (k : Nat) m ds h' => ds = [] ∧ k ≤ t.machines.length ∧ Ext h h' ∧ ∃ (v5 : Value) (X : List (Mach × Value)),
      Own h h' (slI h v5 72 2 (X.flatMap mRow) X.length :: ceI b5 [i64 t.first, i64 t.days, v5, .slice ar t.reels.length cr] 25 false :: ceI b2 [i64 t.first, i64 t.days, .slice am t.machines.length cm, .slice ar t.reels.length cr] 25 false :: X.map (lfI h)) ∧
      X.map Prod.fst = t.machines.take k ∧ AllK m [(1, v1), (2, ptr b2), (5, ptr b5), (6, i64 k)]) (fun k => t.machines.length - k) 0 ?_ ?_
  · exact ⟨rfl, Nat.zero_le _, hE3, _, [], hO3.nilSl 72 2, rfl, rfl, rfl, rfl, rfl, trivial⟩
  clear hO3 hE3 hW3
  clear h3
  rintro k m ds h1 ⟨rfl, hk, hE1, v5, X, hO, hX, hall⟩
  refine Wc_wf fun hw1 => ?_
  refine Wc.le ?_ (Le.kn hall)
  have hg5 : h1.get b5 = _ := hO.p2
  have hg2 : h1.get b2 = _ := hO.p3
  refine zz ?_
  refine Wo_dec rfl rfl rfl rfl (A_lss rfl rfl) (fun hkq => ?_) (fun hkq => ?_)
  rotate_left
  · have hkk : k = t.machines.length := by omega
    subst hkk
    rw [List.take_length] at hX
    clear hg5 hg2 hkq hk
    have hu0 : uOf t X = t := by unfold uOf; rw [hX]
    have hN0 : ∀ p ∈ X, Len p.1.name := fun p hp => (hf.msF p.1 (by rw [← hX]; exact List.mem_map.2 ⟨p, hp, rfl⟩)).name
    have hKi : (ints K).length = K.length := ints_len' K
    have hKb : K.length ≤ t.reels.length := by
      have := nodup_le hKn fun x hx => List.mem_range.2 (hKl x hx)
      rwa [List.length_range] at this
    refine zz ?_
    refine Wc_loop (fun (i : Nat) m ds h' => ds = [] ∧ i ≤ K.length ∧ Ext h h' ∧ ∃ (v5 v7 : Value) (X : List (Mach × Value)) (T : List Turn), Lowd t (uOf t X) ∧ (∀ p ∈ X, Len p.1.name) ∧ T.length ≤ i ∧ T ++ turnsG (uOf t X) (K.drop i) = turnsG t K ∧
        Own h h' ([slI h v7 59 3 (T.flatMap tRow) T.length, slI h v5 72 2 (X.flatMap mRow) X.length, ceI b5 [i64 t.first, i64 t.days, v5, .slice ar t.reels.length cr] 25 false, ceI b2 [i64 t.first, i64 t.days, .slice am t.machines.length cm, .slice ar t.reels.length cr] 25 false] ++ X.map (lfI h)) ∧
        AllK m [(1, v1), (2, ptr b2), (5, ptr b5), (7, v7), (8, i64 i)]) (fun i => K.length - i) 0 ?_ ?_
    · exact ⟨rfl, Nat.zero_le _, hE1, v5, _, X, [], by rw [hu0]; exact Lowd.refl hV, hN0, Nat.le_refl _, by rw [hu0]; rfl, hO.nilSl 59 3, rfl, rfl, rfl, rfl, rfl, trivial⟩
    clear hO hE1 hw1 hX hu0 hN0 hall
    clear h1 m X v5
    rintro i m ds h1 ⟨rfl, hi, hE1, v5, v7, X, T, hL, hN, hTl, hT, hO, hall⟩
    refine Wc_wf fun hw1 => ?_
    refine Wc.le ?_ (Le.kn hall)
    have hF1 := hFK.ext hE1
    obtain ⟨a1, rfl, _, hs1⟩ := hF1.srcAt
    refine zz ?_
    refine Wo_dec rfl rfl rfl rfl (A_lss rfl rfl) (fun hip => ?_) (fun hip => ?_)
    rotate_left
    · have hii : i = K.length := by omega
      subst hii
      rw [List.drop_length] at hT
      have hT' : T = turnsG t K := by rw [← hT]; show T = T ++ []; rw [List.append_nil]
      obtain ⟨a7, rfl, h7⟩ := turns_of hO.p1
      rw [hT'] at h7
      refine zz ?_
      rw [hT']
      exact Wc_ret (Lv_ret rfl ⟨a7, rfl, h7, hE1⟩)
    have hi' : i < K.length := by omega
    have hKd : K.drop i = K[i] :: K.drop (i + 1) := List.drop_eq_getElem_cons hi'
    have hr := hKl _ (List.getElem_mem hi')
    have hU := hL.valid hV
    generalize hrest : K.drop (i + 1) = rest at *
    have hrn : rest.Nodup := by rw [← hrest]; exact hKn.sublist (List.drop_sublist _ _)
    have hrr : ∀ x ∈ rest, x < t.reels.length := fun x hx => hKl x (by rw [← hrest] at hx; exact List.mem_of_mem_drop hx)
    have hUl : (uOf t X).machines.length = t.machines.length := hL.len
    have hXl : X.length = t.machines.length := by rw [← hUl]; exact (List.length_map _).symm
    have hfin : ∀ dn X' T', TurnSt t X T K[i] rest (fun d' m' => d' < t.days.toNat ∧ m' < t.machines.length) dn X' T' → Lowd t (uOf t X') ∧ (∀ p ∈ X', Len p.1.name) ∧ T'.length ≤ i + 1 ∧ T' ++ turnsG (uOf t X') rest = turnsG t K := by
      intro dn X' T' hS
      rw [hKd] at hT
      rcases hS with ⟨rfl, rfl, rfl, h2⟩ | ⟨rfl, d, mm, h2, rfl, rfl⟩
      · have hc : turnC (uOf t X') K[i] rest = none := turnC_none fun d' m' hd' hm' => h2 d' m' ⟨hd', by rw [← hUl]; exact hm'⟩
        refine ⟨hL, hN, by omega, ?_⟩
        rw [← hT]
        congr 1
        show _ = (match turnC (uOf t X') K[i] rest with | none => turnsG (uOf t X') rest | some c => _)
        rw [hc]
      · have hmem := mem_cellsT.1 (List.mem_of_find?_eq_some h2)
        have hok := okC_parts (List.find?_some h2)
        rw [uOf_low]
        refine ⟨hL.low hV (by rw [← hUl]; exact hmem.2) hmem.1 hok.2.1, fun p hp => ?_, by rw [List.length_append]; simp; omega, ?_⟩
        · unfold lowX at hp
          obtain ⟨j, hj, rfl⟩ := List.getElem_of_mem hp
          rw [List.getElem_modify]
          rw [List.length_modify] at hj
          split
          · exact hN X[j] (List.getElem_mem hj)
          · exact hN X[j] (List.getElem_mem hj)
        · rw [← hT, List.append_assoc]
          congr 1
          show _ = (match turnC (uOf t X) K[i] rest with | none => turnsG (uOf t X) rest | some c => ⟨K[i], c.2, (uOf t X).first + c.1⟩ :: turnsG (low (uOf t X) c.2 c.1) rest)
          rw [h2]
          rfl
    refine zz ?_
    refine Wc_loop (fun (d : Nat) m ds h' => ds = [] ∧ d ≤ t.days.toNat ∧ Ext h h' ∧ ∃ (dn : Bool) (v7' : Value) (X' : List (Mach × Value)) (T' : List Turn), TurnSt t X T K[i] rest (fun d' m' => d' < d ∧ m' < t.machines.length) dn X' T' ∧
        Own h h' ([slI h v7' 59 3 (T'.flatMap tRow) T'.length, slI h v5 72 2 (X'.flatMap mRow) X'.length, ceI b5 [i64 t.first, i64 t.days, v5, .slice ar t.reels.length cr] 25 false, ceI b2 [i64 t.first, i64 t.days, .slice am t.machines.length cm, .slice ar t.reels.length cr] 25 false] ++ X'.map (lfI h)) ∧
        AllK m [(1, .slice a1 (ints K).length (ints K).length), (2, ptr b2), (5, ptr b5), (7, v7'), (8, i64 i), (9, .bool dn), (10, i64 d)]) (fun d => t.days.toNat - d) 0 ?_ ?_
    · exact ⟨rfl, Nat.zero_le _, hE1, false, v7, X, T, .inl ⟨rfl, rfl, rfl, fun d m h => by omega⟩, hO, rfl, rfl, rfl, rfl, rfl, rfl, rfl, trivial⟩
    clear hO hE1 hw1 hall hs1 hF1
    clear h1 m v7
    rintro d m ds h1 ⟨rfl, hd, hE1, dn, v7', X', T', hS, hO, hall⟩
    refine Wc_wf fun hw1 => ?_
    refine Wc.le ?_ (Le.kn hall)
    have hg5 : h1.get b5 = _ := hO.p3
    have hg2 : h1.get b2 = _ := hO.p4
    refine zz ?_
    refine Wo_dec rfl rfl rfl rfl (A_lss rfl rfl) (fun hdq => ?_) (fun hdq => ?_)
    rotate_left
    · have hdd : d = t.days.toNat := by omega
      subst hdd
      obtain ⟨f1, f2, f3, f4⟩ := hfin dn X' T' hS
      refine zz ?_
      exact ⟨i + 1, (by show K.length - (i + 1) < K.length - i; omega), rfl, hi', hE1, v5, v7', X', T', f1, f2, f3, by rw [hrest]; exact f4, hO, rfl, rfl, rfl, rfl, rfl, trivial⟩
    cases dn
    rotate_left
    · obtain ⟨f1, f2, f3, f4⟩ := hfin true X' T' (by
        rcases hS with ⟨g, _⟩ | g
        · cases g
        · exact .inr g)
      refine zz ?_
      exact ⟨i + 1, (by show K.length - (i + 1) < K.length - i; omega), rfl, hi', hE1, v5, v7', X', T', f1, f2, f3, by rw [hrest]; exact f4, hO, rfl, rfl, rfl, rfl, rfl, trivial⟩
    have hd' : d < t.days.toNat := by omega
    refine zz ?_
    refine Wc_loop (fun (k : Nat) m ds h' => ds = [] ∧ k ≤ t.machines.length ∧ Ext h h' ∧ ∃ (dn : Bool) (v7' : Value) (X' : List (Mach × Value)) (T' : List Turn), TurnSt t X T K[i] rest (fun d' m' => (d' < d ∧ m' < t.machines.length) ∨ (d' = d ∧ m' < k)) dn X' T' ∧
        Own h h' ([slI h v7' 59 3 (T'.flatMap tRow) T'.length, slI h v5 72 2 (X'.flatMap mRow) X'.length, ceI b5 [i64 t.first, i64 t.days, v5, .slice ar t.reels.length cr] 25 false, ceI b2 [i64 t.first, i64 t.days, .slice am t.machines.length cm, .slice ar t.reels.length cr] 25 false] ++ X'.map (lfI h)) ∧
        AllK m [(1, .slice a1 (ints K).length (ints K).length), (2, ptr b2), (5, ptr b5), (7, v7'), (8, i64 i), (9, .bool dn), (10, i64 d), (11, i64 k)]) (fun k => t.machines.length - k) 0 ?_ ?_
    · refine ⟨rfl, Nat.zero_le _, hE1, false, v7', X', T', ?_, hO, rfl, rfl, rfl, rfl, rfl, rfl, rfl, rfl, trivial⟩
      rcases hS with ⟨_, g1, g2, g3⟩ | ⟨g, _⟩
      · exact .inl ⟨rfl, g1, g2, fun d' m' h => g3 d' m' (by omega)⟩
      · cases g
    clear hO hE1 hw1 hall hS hg5 hg2
    clear h1 m v7' X' T'
    rintro k m ds h1 ⟨rfl, hk, hE1, dn, v7', X', T', hS, hO, hall⟩
    refine Wc_wf fun hw1 => ?_
    refine Wc.le ?_ (Le.kn hall)
    have hX'l : X'.length = t.machines.length := by
      rcases hS with ⟨_, rfl, _⟩ | ⟨_, d', m', _, rfl, _⟩
      · exact hXl
      · unfold lowX; rw [List.length_modify]; exact hXl
    have hg5 : h1.get b5 = _ := hO.p3
    have hg2 : h1.get b2 = _ := hO.p4
    obtain ⟨a5, rfl, -⟩ := mats_of hO.p2 (fun p hp => hO.has _ (List.mem_append_right _ (List.mem_map.2 ⟨p, hp, rfl⟩)))
    have hbef : dn = true ∨ k = t.machines.length → TurnSt t X T K[i] rest (fun d' m' => d' < d + 1 ∧ m' < t.machines.length) dn X' T' := fun hh => by
      rcases hS with ⟨g0, g1, g2, g3⟩ | g
      · refine .inl ⟨g0, g1, g2, fun d' m' h => g3 d' m' ?_⟩
        rcases hh with e | e
        · rw [g0] at e; cases e
        · omega
      · exact .inr g
    refine zz ?_
    refine Wo_dec rfl rfl rfl rfl (A_lss rfl rfl) (fun hkq => ?_) (fun hkq => ?_)
    rotate_left
    · have hkk : k = t.machines.length := by omega
      refine zz ?_
      exact ⟨d + 1, (by show t.days.toNat - (d + 1) < t.days.toNat - d; omega), rfl, hd', hE1, dn, v7', X', T', hbef (.inr hkk), hO, rfl, rfl, rfl, rfl, rfl, rfl, rfl, trivial⟩
    cases dn
    rotate_left
    · refine zz ?_
      exact ⟨d + 1, (by show t.days.toNat - (d + 1) < t.days.toNat - d; omega), rfl, hd', hE1, true, v7', X', T', hbef (.inl rfl), hO, rfl, rfl, rfl, rfl, rfl, rfl, rfl, trivial⟩
    have hk' : k < t.machines.length := by omega
    rcases hS with ⟨_, rfl, rfl, hbf⟩ | ⟨g, _⟩
    rotate_left
    · cases g
    clear hbef hk
    have hkX : k < X'.length := by rw [hXl]; exact hk'
    have hm4 : (uOf t X').machines[k]'(by rw [hUl]; exact hk') = X'[k].1 := by simp [uOf]
    have hpl : (X'[k].1.places.length : Int) = t.days := by
      have h1 := (hU.ms _ (List.getElem_mem (show k < (uOf t X').machines.length by rw [hUl]; exact hk'))).1
      rw [hm4] at h1; exact h1
    have hdp : d < X'[k].1.places.length := by omega
    have hcapE : capM (uOf t X') k d = X'[k].1.places.getD d 0 := by
      unfold capM
      rw [List.getD_eq_getElem?_getD (l := (uOf t X').machines), List.getElem?_eq_getElem (show k < (uOf t X').machines.length by rw [hUl]; exact hk'), Option.getD_some, hm4]
    have hcapB := hL.cap k d
    have hst : ∀ dn, dn = false → okC (uOf t X') K[i] rest (d, k) = false → TurnSt t X' T' K[i] rest (fun d' m' => (d' < d ∧ m' < t.machines.length) ∨ (d' = d ∧ m' < k + 1)) dn X' T' := fun dn e g => .inl ⟨e, rfl, rfl, fun d' m' h => by
      by_cases e2 : d' = d ∧ m' = k
      · rw [e2.1, e2.2]; exact g
      · exact hbf d' m' (by omega)⟩
    have hsk1 : IntsAt h1 a1 (ints K) := (hFK.ext hE1).srcAt.elim fun a ha => by
      obtain ⟨e, _, h2⟩ := ha
      simp only [Value.slice.injEq] at e
      obtain ⟨rfl, _, _⟩ := e
      exact h2.1
    obtain ⟨b1, o1, oa1, rfl, hc1⟩ := hsk1 i (by rw [hKi]; exact hi')
    have hKe : (ints K)[i]'(by rw [hKi]; exact hi') = ((K[i] : Nat) : Int) := by simp [ints]
    rw [hKe] at hc1
    have hcan := can_sv (k := K[i]) (m := (k : Nat)) (d := (d : Nat)) (ht0.ext hE1) hf hr (by have := hV.f0; have := hV.f1; constructor <;> omega)
    clear hsk1
    by_cases hcb : canB t (K[i] : Nat) (k : Nat) (d : Nat) = true
    rotate_left
    · have hcb : canB t (K[i] : Nat) (k : Nat) (d : Nat) = false := by simpa using hcb
      rw [hcb] at hcan
      have hno : okC (uOf t X') K[i] rest (d, k) = false := by
        rw [Bool.eq_false_iff, Ne, okC_iff, hL.canB, hcb]
        exact fun g => nomatch g.1
      refine zz ?_
      refine Wc_draw hmix [0, 0, 0, 6, 14, 0, 0, 127, 255, 511, 1023, 2047, 1023, 8191, 16383, 32767, 1023, 131071, 262143, 524287, 1048575] [0, 1, 2, 3, 4, 5, 6] (some 7) [([8, 9, 10, 11, 12, 13, 14, 15, 16, 17, 18, 19, 20], none)] (by kernel_rfl) (by kernel_rfl) ?_
      refine z_r ?_; refine z_m ?_; refine z_m ?_; refine z_i ?_; refine z_l ?_; refine z_m ?_; refine z_m ?_
      refine Wp_eff [0, 1, 2, 3, 4, 5, 6] (by kernel_rfl) rfl (Stl_nil rfl) rfl nb rfl (W1_callE rfl rfl rfl rfl rfl Bod.h hcan (fun h2 hE2 => ?_))
      refine z_n ?_; refine z_m ?_; refine z_o ?_; refine z_o ?_; refine z_o ?_; refine z_o ?_; refine z_o ?_; refine z_o ?_; refine z_o ?_; refine z_o ?_; refine z_o ?_; refine z_o ?_; refine z_p ?_
      refine Wp_end (Stl_nil rfl) nb' ?_
      refine zz ?_
      exact ⟨k + 1, (by show t.machines.length - (k + 1) < t.machines.length - k; omega), rfl, hk', hE1.trans hE2, false, v7', X', T', hst false rfl hno, hO.ext hE2, rfl, rfl, rfl, rfl, rfl, rfl, rfl, rfl, trivial⟩
    rw [hcb] at hcan
    have hlf : FreshSl h h1 X'[k].2 3 1 (X'[k].1.places.map i64) X'[k].1.places.length := hO.has _ (List.mem_append_right _ (List.mem_map.2 ⟨_, List.getElem_mem hkX, rfl⟩))
    obtain ⟨bp, spp, opp, ep, hgp, -, hnp⟩ := hlf.blk (by omega)
    have hv5 : FreshSl h h1 (.slice a5 X'.length X'.length) 72 2 (X'.flatMap mRow) X'.length := hO.p2
    obtain ⟨bv, spv, opv, ev, hgv, -⟩ := hv5.blk (by omega)
    simp only [Value.slice.injEq] at ev
    obtain ⟨rfl, _, _⟩ := ev
    have hcv : cellAt h1 bv (0 + k * 2 + 1) = some X'[k].2 := cell_of_row (rowAt_cells hgv (by rw [Nat.zero_add]; exact cut_flat hkX fun _ _ => rfl)) rfl
    rw [ep] at hcv
    have hcd : cellAt h1 bp (0 + d * 1) = some (i64 (X'[k].1.places.getD d 0)) := cellAt_cells hgp (by rw [nth_eq]; simp [hdp, List.getD_eq_getElem?_getD])
    clear hlf hv5 hgv
    by_cases hcz : X'[k].1.places.getD d 0 = 0
    · have hno : okC (uOf t X') K[i] rest (d, k) = false := by
        rw [Bool.eq_false_iff, Ne, okC_iff]
        exact fun g => g.2.1 (hcapE.trans hcz)
      refine zz ?_
      refine Wc_draw hmix [0, 0, 0, 6, 14, 0, 0, 127, 255, 511, 1023, 2047, 1023, 8191, 16383, 32767, 1023, 131071, 262143, 524287, 1048575] [0, 1, 2, 3, 4, 5, 6] (some 7) [([8, 9, 10, 11, 12, 13, 14, 15, 16, 17, 18, 19, 20], none)] (by kernel_rfl) (by kernel_rfl) ?_
      refine z_r ?_; refine z_m ?_; refine z_m ?_; refine z_i ?_; refine z_l ?_; refine z_m ?_; refine z_m ?_
      refine Wp_eff [0, 1, 2, 3, 4, 5, 6] (by kernel_rfl) rfl (Stl_nil rfl) rfl nb rfl (W1_callE rfl rfl rfl rfl rfl Bod.h hcan (fun h2 hE2 => ?_))
      have hg52 := hE2.get hg5
      have hcv2 := hE2.cell hcv
      have hcd2 := hE2.cell hcd
      refine z_n ?_; refine z_m ?_; refine g_f ?_; refine g_l ?_; refine g_m ?_; refine g_i ?_; refine g_f ?_; refine g_l ?_; refine g_m ?_; refine g_i ?_; refine g_l ?_
      first | refine Wp_off rfl rfl rfl rfl ?_ | refine Wp_pure rfl rfl rfl rfl rfl (fun _ => A_tt hcz (A_eql rfl rfl)) ?_
      refine z_p ?_
      refine Wp_end (Stl_nil rfl) nb' ?_
      refine zz ?_
      exact ⟨k + 1, (by show t.machines.length - (k + 1) < t.machines.length - k; omega), rfl, hk', hE1.trans hE2, false, v7', X', T', hst false rfl hno, hO.ext hE2, rfl, rfl, rfl, rfl, rfl, rfl, rfl, rfl, trivial⟩
    rw [hcapE] at hcapB
    refine zz ?_
    refine Wc_draw hmix [0, 0, 0, 6, 14, 0, 0, 127, 255, 511, 1023, 2047, 1023, 8191, 16383, 32767, 1023, 131071, 262143, 524287, 1048575] [0, 1, 2, 3, 4, 5, 6] (some 7) [([8, 9, 10, 11, 12, 13, 14, 15, 16, 17, 18, 19, 20], none)] (by kernel_rfl) (by kernel_rfl) ?_
    refine z_r ?_; refine z_m ?_; refine z_m ?_; refine z_i ?_; refine z_l ?_; refine z_m ?_; refine z_m ?_
    refine Wp_eff [0, 1, 2, 3, 4, 5, 6] (by kernel_rfl) rfl (Stl_nil rfl) rfl nb rfl (W1_callE rfl rfl rfl rfl rfl Bod.h hcan (fun h2 hE2 => ?_))
    replace hg5 := hE2.get hg5
    replace hg2 := hE2.get hg2
    replace hgp := hE2.get hgp
    replace hcv := hE2.cell hcv
    replace hcd := hE2.cell hcd
    replace hc1 := hE2.cell hc1
    replace hO := hO.ext hE2
    refine z_n ?_; refine z_m ?_; refine g_f ?_; refine g_l ?_; refine g_m ?_; refine g_i ?_; refine g_f ?_; refine g_l ?_; refine g_m ?_; refine g_i ?_; refine g_l ?_
    first | refine Wp_off rfl rfl rfl rfl ?_ | refine Wp_pure rfl rfl rfl rfl rfl (fun _ => A_ff hcz (A_eql rfl rfl)) ?_
    refine z_p ?_
    refine Wp_end (Stl_nil rfl) nb' ?_
    replace hE1 := hE1.trans hE2
    clear hE2 hcan hw1 hall
    clear h1
    refine Wc_wf fun hw2 => ?_
    refine zz ?_
    refine Wo_do rfl rfl rfl rfl (A_ix Und.h Tsz.h rfl rfl) ?_
    refine zz ?_
    refine Wo_do rfl rfl rfl rfl (A_ix Und.h Tsz.h rfl rfl) ?_
    refine zz ?_
    refine Wo_do rfl rfl rfl rfl (A_ix Und.h Tsz.h rfl rfl) ?_
    refine Wo_store rfl Tsz.h rfl rfl hgp rfl rfl (lay_one (show 0 + d * 1 < (X'[k].1.places.map i64).length by rw [List.length_map]; omega)) fun h3 hU3 => ?_
    rw [Nat.zero_add, Nat.mul_one, ← lowP_cells hdp] at hU3
    obtain ⟨hO3, hE3⟩ := hO.leafSet hkX hw2 hE1 hw ep (x := lowP d X'[k].1) (by simp [lowP]) hU3
    rw [← lowX_set hkX] at hO3
    have hYl : (lowX X' k d).length = X'.length := by unfold lowX; exact List.length_modify _ _ _
    have hYr : (lowX X' k d).flatMap mRow = X'.flatMap mRow := lowX_rows _ _ _
    have hO4 : Own h h3 ([slI h v7' 59 3 (T'.flatMap tRow) T'.length, slI h (.slice (some ⟨bv, 0, spv⟩) X'.length X'.length) 72 2 ((lowX X' k d).flatMap mRow) (lowX X' k d).length, ceI b5 [i64 t.first, i64 t.days, .slice (some ⟨bv, 0, spv⟩) X'.length X'.length, .slice ar t.reels.length cr] 25 false, ceI b2 [i64 t.first, i64 t.days, .slice am t.machines.length cm, .slice ar t.reels.length cr] 25 false] ++ (lowX X' k d).map (lfI h)) := by
      rw [hYl, hYr]; exact hO3
    have hLY : Lowd t (uOf t (lowX X' k d)) := by
      rw [uOf_low]
      exact hL.low hV hk' hd' (by rw [hcapE]; exact hcz)
    have hNY : ∀ p ∈ lowX X' k d, Len p.1.name := fun p hp => by
      unfold lowX at hp
      obtain ⟨j, hj, rfl⟩ := List.getElem_of_mem hp
      rw [List.getElem_modify]
      rw [List.length_modify] at hj
      split
      · exact hN X'[j] (List.getElem_mem hj)
      · exact hN X'[j] (List.getElem_mem hj)
    have hT3 := task_of (ar := ar) (cr := cr) hO4.p2 (fun p hp => hO4.has _ (List.mem_append_right _ (List.mem_map.2 ⟨p, hp, rfl⟩))) hR hE3
    have hg53 : h3.get b5 = _ := hO4.p3
    obtain ⟨a8, c8, hz8, hA8⟩ := A_freshDrop (P := Tryz.prog) (t := 31) (ki := .i64) (k := i + 1) (hFK.ext hE3) (by omega) Und.h Tsz.h (by omega)
    have hir : (ints K).drop (i + 1) = ints rest := by rw [← hrest]; unfold ints; rw [List.map_drop]
    have hirl : (ints rest).length = (ints K).length - (i + 1) := by rw [← hir, List.length_drop]
    have hI8 : IntsAt h3 a8 (ints rest) := fun j hj => by
      obtain ⟨b, o, oa, e, hc⟩ := hz8 h3 _ (hFK.ext hE3) j (by rw [List.length_drop, List.length_map]; omega)
      refine ⟨b, o, oa, e, ?_⟩
      rw [hc]
      congr 1
      simp only [← hir, List.getElem_drop, List.getElem_map]
    rw [← hirl] at hA8
    have hfit := refFitsIn_sv (cap := c8) hT3 (fit_uOf hf hLY hV hNY) (hLY.valid hV) hI8 (ints_nodup hrn) (fun x hx => by
      obtain ⟨r, hr, rfl⟩ := List.mem_map.1 hx
      have := hrr r hr
      exact ⟨by omega, by show _ < ((t.reels.length : Nat) : Int); omega⟩) (by omega)
    rw [natsL_cast] at hfit
    clear hcv hcd hgp hg5 hg2 hO3 hO hU3 hz8 hw2 hT3
    replace hc1 : cellAt h3 b1 (o1 + i * 1) = some (i64 (K[i] : Nat)) := by
      obtain ⟨b', o', oa', e, hc⟩ := (hFK.ext hE3).srcAt.elim fun a ha => by
        obtain ⟨e, _, h2⟩ := ha
        simp only [Value.slice.injEq] at e
        obtain ⟨rfl, _, _⟩ := e
        exact h2.1 i (by rw [hKi]; exact hi')
      cases e
      rw [hKe] at hc; exact hc
    refine zz ?_
    refine Wc_draw hmix [0, 0, 0, 4, 14, 31, 63] [0, 1, 2, 3, 4] (some 5) [([], (some 6)), ([], none)] (by kernel_rfl) (by kernel_rfl) ?_
    refine z_r ?_; refine z_m ?_; refine z_m ?_; refine z_y ?_; refine Wp_pure rfl rfl rfl rfl rfl (fun _ => hA8 rfl rfl) ?_
    refine Wp_eff [0, 1, 2, 3, 4] (by kernel_rfl) rfl (Stl_nil rfl) rfl nb rfl (W1_call rfl rfl rfl rfl rfl Bod.h hfit (fun v9 h4 hv => ?_) (fun _ _ hR => hR.elim))
    obtain ⟨b9, rfl, hb9, hE4⟩ := hv
    refine Wp_eff [0, 1, 2, 3, 4, 5] (by kernel_rfl) rfl (Stl_nil rfl) rfl nb rfl (W1_op rfl rfl (A_assign rfl) ?_)
    refine Wp_end (Stl_nil rfl) nb' ?_
    replace hO4 := hO4.ext hE4
    replace hc1 := hE4.cell hc1
    replace hE3 := hE3.trans hE4
    clear hfit hI8 hg53 hA8 hE1
    clear hE4
    clear h3 h2 m
    refine Wc_wf fun hw4 => ?_
    have hg5 : h4.get b5 = _ := hO4.p3
    have hg2 : h4.get b2 = _ := hO4.p4
    cases b9
    · have hno : okC (uOf t X') K[i] rest (d, k) = false := by
        rw [Bool.eq_false_iff, Ne, okC_iff]
        intro g
        have := g.2.2
        rw [← uOf_low] at this
        exact nomatch hb9.2 this
      have hkY : k < (lowX X' k d).length := by omega
      have hYk : (lowX X' k d)[k] = (lowP d X'[k].1, X'[k].2) := by simp only [lowX_set hkX, List.getElem_set_self]
      have hlY : (lowP d X'[k].1).places.length = X'[k].1.places.length := by unfold lowP; simp
      have hlf : FreshSl h h4 X'[k].2 3 1 ((lowP d X'[k].1).places.map i64) (lowP d X'[k].1).places.length := by
        have := hO4.has _ (List.mem_append_right _ (List.mem_map.2 ⟨_, List.getElem_mem hkY, rfl⟩))
        rw [hYk] at this
        exact this
      rw [ep, hlY] at hlf
      obtain ⟨bp', spp', opp', ep', hgp, -, -⟩ := hlf.blk (by omega)
      simp only [Value.slice.injEq, Option.some.injEq, Addr.mk.injEq] at ep'
      obtain ⟨⟨rfl, -, rfl⟩, -, -⟩ := ep'
      have hv5 : FreshSl h h4 (.slice (some ⟨bv, 0, spv⟩) X'.length X'.length) 72 2 ((lowX X' k d).flatMap mRow) (lowX X' k d).length := hO4.p2
      obtain ⟨bv', spv', opv', ev', hgv, -⟩ := hv5.blk (by omega)
      simp only [Value.slice.injEq, Option.some.injEq, Addr.mk.injEq] at ev'
      obtain ⟨⟨rfl, -, rfl⟩, -, -⟩ := ev'
      have hcv : cellAt h4 bv (0 + k * 2 + 1) = some X'[k].2 := by
        have := cell_of_row (k := 1) (v := X'[k].2) (rowAt_cells (o := 0 + k * 2) (n := 2) hgv (by rw [Nat.zero_add]; exact cut_flat hkY fun _ _ => rfl)) (by rw [hYk]; rfl)
        exact this
      rw [ep] at hcv
      have hcd : cellAt h4 bp (0 + d * 1) = some (i64 (X'[k].1.places.getD d 0 - 1)) := cellAt_cells hgp (by rw [lowP_cells hdp, nth_eq]; simp [hdp])
      clear hlf hv5 hgv
      refine zz ?_
      refine Wo_do rfl rfl rfl rfl (A_ix Und.h Tsz.h rfl rfl) ?_
      refine zz ?_
      refine Wo_do rfl rfl rfl rfl (A_ix Und.h Tsz.h rfl rfl) ?_
      refine zz ?_
      refine Wo_do rfl rfl rfl rfl (A_ix Und.h Tsz.h rfl rfl) ?_
      refine Wo_store rfl Tsz.h rfl rfl hgp rfl rfl (lay_one (show 0 + d * 1 < ((lowP d X'[k].1).places.map i64).length by rw [List.length_map, hlY]; omega)) fun h5 hU5 => ?_
      rw [Nat.zero_add, Nat.mul_one, Int.sub_add_cancel, low_back hdp] at hU5
      obtain ⟨hO5, hE5⟩ := hO4.leafSet hkY hw4 hE3 hw (x := X'[k].1) (by rw [hYk]; simp only; rw [hlY]; exact ep) (by rw [hYk]; exact hlY.symm) hU5
      have hback : (lowX X' k d).set k (X'[k].1, (lowX X' k d)[k].2) = X' := by
        rw [hYk, lowX_set hkX, List.set_set]
        exact List.set_getElem_self hkX
      rw [hback, hYr, hYl] at hO5
      refine zz ?_
      exact ⟨k + 1, (by show t.machines.length - (k + 1) < t.machines.length - k; omega), rfl, hk', hE5, false, v7', X', T', hst false rfl hno, hO5, rfl, rfl, rfl, rfl, rfl, rfl, rfl, rfl, trivial⟩
    have hyes : turnC (uOf t X') K[i] rest = some (d, k) := by
      refine turnC_some hd' (by rw [hUl]; exact hk') (okC_iff.2 ⟨by rw [hL.canB]; exact hcb, by rw [hcapE]; exact hcz, ?_⟩) fun d' m' _ hm' hl => hbf d' m' ?_
      · rw [← uOf_low]; exact hb9.1 rfl
      · rw [hUl] at hm'
        unfold ltC at hl
        simp only at hl
        omega
    have hEa := Ext.add hw4 (.cells [i64 (K[i] : Nat), i64 (k : Nat), i64 (t.first + (d : Nat))] 59 false)
    have hg2a := hEa.get hg2
    have hf0 := hV.f0
    have hf1 := hV.f1
    obtain ⟨a7, rfl, -⟩ := turns_of hO4.p1
    refine zz ?_
    refine Wc_draw hmix [0, 0, 0, 6, 14, 0, 0, 64, 0, 448, 1022, 2046, 4095, 8191] [0, 1, 2, 3, 4, 5, 6, 7, 8, 9, 10, 11] (some 12) [([], (some 13)), ([], none)] (by kernel_rfl) (by kernel_rfl) ?_
    refine z_m ?_; refine z_m ?_; refine z_m ?_; refine z_i ?_; refine z_l ?_; refine z_m ?_; refine z_f ?_; refine z_l ?_; refine z_m ?_; refine z_y ?_; refine Wp_pure rfl rfl rfl rfl rfl (fun _ => A_build rfl rfl) ?_
    refine Wp_new (nk := .sl _ _) rfl rfl rfl rfl rfl (fun _ _ hs => N_bs hs Und.h Tsz.h Zr.h rfl rfl rfl rfl rfl) ?_
    refine Wp_eff (h1 := (Heap.add h4 _)) [0, 1, 2, 3, 4, 5, 6, 7, 8, 9, 10, 11] (by kernel_rfl) rfl (Stl_nil rfl) rfl rfl rfl (W1_wfK (W1_appendO (by' := 24) (sz := 3) (k := 1) (n := T'.length) (l := [i64 (K[i] : Nat), i64 (k : Nat), i64 (t.first + (d : Nat))]) rfl hw (hE3.trans hEa) rfl rfl rfl rfl Und.h inferInstance rfl rfl (hO4.ext hEa) ((FreshSl.lit (h0 := h) (n := 1) (sz := 3) Heap.get_add_same rfl hE3.2.1).src (dd := .slice 59) Und.h (by intro k; simp)) rfl rfl (by omega) (by omega) (fun v10 h10 hO10 hE10 hw10 => ?_)))
    refine Wp_eff (h1 := h10) [0, 1, 2, 3, 4, 5, 6, 7, 8, 9, 10, 11, 12] (by kernel_rfl) rfl (Stl_nil rfl) rfl rfl rfl (W1_op rfl rfl (A_assign rfl) ?_)
    refine Wp_end (Stl_nil rfl) rfl ?_
    rw [hYr, hYl] at hO10
    refine zz ?_
    refine ⟨k + 1, ?_, rfl, hk', hE10, true, v10, lowX X' k d, T' ++ [⟨(K[i] : Nat), (k : Nat), t.first + (d : Nat)⟩], ?_, ?_, rfl, rfl, rfl, rfl, rfl, rfl, rfl, rfl, trivial⟩
    · show t.machines.length - (k + 1) < t.machines.length - k; omega
    · exact .inr ⟨rfl, d, k, hyes, rfl, rfl⟩
    · rw [List.flatMap_append, List.length_append, hYr, hYl]; exact hO10
  have hk' : k < t.machines.length := by omega
  obtain ⟨bm, om, oam, ap, cp, rfl, hcn, hcp, hI⟩ := machCells (fun i hi => hM i hi) hk'
  replace hcn := hE1.cell hcn
  replace hcp := hE1.cell hcp
  replace hI := ListAt.ext hI hE1
  have hXl : X.length = k := by
    have := congrArg List.length hX
    rw [List.length_map, List.length_take] at this
    omega
  obtain ⟨hpl, hpv⟩ := hV.ms _ (List.getElem_mem hk')
  have hEa := Ext.add hw1 (.cells [] 3 false)
  have hg5a := hEa.get hg5
  have hg2a := hEa.get hg2
  have hcna := hEa.cell hcn
  have hsrc : SrcAt i64 h1 ap t.machines[k].places := ⟨hI, fun e => by rw [e] at hpl; simp at hpl; omega⟩
  refine zz ?_
  refine Wc_draw hmix [0, 1, 0, 4, 0, 28, 60, 124, 0, 0, 512, 0, 3584, 7680, 15872, 32512, 65532, 131068, 262143, 524287, 1048575] [0, 1, 2, 3, 4, 5, 6, 7, 8, 9, 10, 11, 12, 13, 14] (some 15) [([16, 17], (some 18)), ([19], (some 20)), ([], none)] (by kernel_rfl) (by kernel_rfl) ?_
  refine z_f ?_; refine z_l ?_; refine z_f ?_; refine z_l ?_; refine z_m ?_; refine z_i ?_; refine z_f ?_; refine z_l ?_
  refine Wp_new (nk := .sl _ _) rfl rfl rfl rfl rfl (fun _ _ hs => N_bs hs Und.h Tsz.h Zr.h rfl rfl rfl rfl rfl) ?_
  refine z_f ?_; refine z_l ?_; refine z_m ?_; refine z_i ?_; refine z_f ?_; refine z_l ?_
  refine Wp_eff (h1 := (Heap.add h1 _)) [8, 9, 10, 11, 12, 13, 14] (by kernel_rfl) rfl (Stl_nil rfl) rfl rfl rfl (W1_wfK (W1_appendF (by' := 8) (k := t.machines[k].places.length) (n := 0) (l := t.machines[k].places.map i64) rfl hw1 (hw1.add _) hEa rfl rfl rfl rfl Und.h inferInstance rfl rfl (FreshSl.lit (n := 0) (sz := 1) (cs := []) Heap.get_add_same rfl (Nat.le_refl _)) ((hsrc.ext hEa).src (dd := .slice 3) Und.h (by intro k; simp)) (by simp) (allOne_i64 _) (by omega) (by omega) (fun v6 h6 hF6 hE6 hK6 hx6 hv6 hw6 => ?_)))
  rw [List.nil_append, Nat.zero_add] at hF6
  have hO6 := (hO.newSl hw1 hE1.2.1 hE6 hF6).up2
  obtain ⟨a6, rfl, _, _⟩ := hF6.is
  have hg56 := hE6.get hg5
  have hg26 := hE6.get hg2
  have hcn6 := hE6.cell hcn
  have hcp6 := hE6.cell hcp
  have hEb := Ext.add hw6 (.cells [str t.machines[k].name, .slice a6 t.machines[k].places.length t.machines[k].places.length] 72 false)
  have hg56b := hEb.get hg56
  refine z_b ?_
  refine Wp_new (nk := .sl _ _) rfl rfl rfl rfl rfl (fun _ _ hs => N_bs hs Und.h Tsz.h Zr.h rfl rfl rfl rfl rfl) ?_
  refine Wp_eff (h1 := (Heap.add h6 _)) [0, 1, 2, 3, 4, 5, 6, 7, 8, 9, 10, 11, 12, 13, 14, 15, 16, 17] (by kernel_rfl) rfl (by refine t_l 7 ?_; refine t_f 6 ?_; refine t_i 5 ?_; refine t_m 4 ?_; refine t_l 3 ?_; refine t_f 2 ?_; refine t_l 1 ?_; refine t_f 0 ?_; exact Stl_nil rfl) rfl rfl rfl (W1_wfK (W1_appendO (by' := 40) (sz := 2) (k := 1) (n := X.length) (l := [str t.machines[k].name, .slice a6 t.machines[k].places.length t.machines[k].places.length]) rfl hw ((hE1.trans hE6).trans hEb) rfl rfl rfl rfl Und.h inferInstance rfl rfl (hO6.ext hEb) ((FreshSl.lit (h0 := h) (n := 1) (sz := 2) Heap.get_add_same rfl (hE1.trans hE6).2.1).src (dd := .slice 72) Und.h (by intro k; simp)) rfl rfl (by omega) (by omega) (fun v7 h7 hO7 hE7 hw7 => ?_)))
  obtain ⟨a7, rfl, _, _⟩ := (show FreshSl h h7 v7 72 2 _ _ from hO7.p1).is
  refine z_f ?_
  refine Wp_eff (h1 := h7) [0, 1, 2, 3, 4, 5, 6, 7, 8, 9, 10, 11, 12, 13, 14, 15, 16, 17, 18, 19] (by kernel_rfl) rfl (Stl_nil rfl) rfl rfl rfl (W1_wfK (W1_storeO rfl hw hE7 rfl Tsz.h rfl rfl hO7.up3 rfl rfl rfl (fun h8 hO8 hE8 hw8 => ?_)))
  refine Wp_end (Stl_nil rfl) rfl ?_
  refine zz ?_
  have hO9 := hO8.up2.perm (.cons _ (.cons _ ((List.Perm.swap _ _ _).trans (.cons _ (List.perm_append_singleton _ _).symm))))
  refine ⟨k + 1, ?_, rfl, hk', hE8, .slice a7 (X.length + 1) (X.length + 1), X ++ [(t.machines[k], .slice a6 t.machines[k].places.length t.machines[k].places.length)], ?_, ?_, rfl, rfl, rfl, rfl, trivial⟩
  · show t.machines.length - (k + 1) < t.machines.length - k; omega
  · rw [List.flatMap_append, List.length_append, List.map_append]
    exact hO9
  · rw [List.map_append, hX, take_succ hk']; rfl
end Go.Dw
/- W16: the contract of the reference's Plan. -/
namespace Go.Dw
open Go Go.Dx Go.Proofs Go.Mt
set_option maxRecDepth 100000
theorem ints_nats {l : List Int} (h : ∀ x ∈ l, 0 ≤ x) : ints (natsL l) = l := by
  unfold ints natsL
  rw [List.map_map]
  conv => rhs; rw [← List.map_id l]
  exact List.map_congr_left fun x hx => Int.toNat_of_nonneg (h x hx)
theorem keptI_ints (t : Task) : ints (keptS t) = keptI t := ints_nats fun _ h => (keptI_in h).1
/-- What Plan hands out. -/
def PlanV (t : Task) (h : Heap) (v : Value) : Prop := ∃ a al, v = .tuple ⟨[.slice a (planS t).1.length (planS t).1.length, .slice al (planS t).2.1.length (planS t).2.1.length, i64 (planS t).2.2]⟩ ∧ TurnsAt h a (planS t).1 ∧ LatsAt h al (planS t).2.1
theorem planS_bad {t : Task} (h : errS t ≠ 0) : planS t = ([], [], errS t) := if_pos h
theorem planS_ok {t : Task} (h : errS t = 0) : planS t = (turnsG t (keptS t), lateL t, 0) := if_neg fun x => x h
theorem refPlan_sv {tc : List Value} {t : Task} {h : Heap} (ht : TaskAt h tc t) (hf : t.Fit) :
    Sv Tryz.prog 25 [.agg ⟨tc⟩] h (RetP fun v h' => PlanV t h' v ∧ Ext h h') := by
  have ht0 := ht
  obtain ⟨am, cm, ar, cr, rfl, hM, hR⟩ := ht
  refine Sv_enter Tryz.func25 rfl (by rw [Tryz.ntmps25]; rfl) ?_; show Wc Tryz.prog ⟨25, 22, none⟩ _ _ _ _ _
  refine zz ?_
  refine Wo_box rfl rfl rfl fun h1 hE1 hW1 hg1 hn1 => ?_
  refine zz ?_
  refine Wo_callE rfl rfl rfl rfl rfl Bod.h rfl rfl (valid_sv (ht0.ext hE1) hf) fun h2 hE2 => ?_
  replace hg1 := hE2.get hg1
  replace hE1 := hE1.trans hE2
  clear hE2 hW1 hn1
  clear h1
  refine zz ?_
  by_cases c0 : errS t = 0
  rotate_left
  · refine Wo_do rfl rfl rfl rfl (A_tt c0 (A_neq rfl rfl)) ?_
    refine zz ?_
    refine Wc_ret (Lv_ret rfl ⟨?_, hE1⟩)
    unfold PlanV
    rw [planS_bad c0]
    exact ⟨none, none, rfl, (fun i hi => nomatch hi), (fun i hi => nomatch hi)⟩
  refine Wo_do rfl rfl rfl rfl (A_ff (fun x => x c0) (A_neq rfl rfl)) ?_
  refine zz ?_
  have hV := valid_of c0
  refine Wo_callr rfl rfl rfl rfl rfl Bod.h rfl rfl (refChosen_sv (ht0.ext hE1) hf hV) ?_
  rintro _ h3 ⟨v1, al, rfl, hF1, hL, hE3⟩
  replace hg1 := hE3.get hg1
  replace hE1 := hE1.trans hE3
  refine zz ?_
  rw [← keptI_ints] at hF1
  refine Wo_callr rfl rfl rfl rfl rfl Bod.h rfl rfl (refTurns_sv (ht0.ext hE1) hf hV hF1 (keptS_nodup t) (fun _ hr => keptS_lt hr)) ?_
  rintro _ h4 ⟨a, rfl, hT, hE4⟩
  refine zz ?_
  refine Wc_ret (Lv_ret rfl ⟨?_, hE1.trans hE4⟩)
  unfold PlanV
  rw [planS_ok c0]
  exact ⟨a, al, rfl, hT, hL.ext hE4⟩
end Go.Dw
