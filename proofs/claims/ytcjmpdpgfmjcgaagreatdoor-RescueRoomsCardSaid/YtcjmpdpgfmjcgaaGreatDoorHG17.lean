/- W8: the contract of the reference's chosen. -/
import Derived.Test.YtcjmpdpgfmjcgaaGreatDoorHG2
import Derived.Test.YtcjmpdpgfmjcgaaGreatDoorHG15
import Derived.Test.YtcjmpdpgfmjcgaaGreatDoorHG13
import Derived.Test.YtcjmpdpgfmjcgaaGreatDoorHG16
namespace Go.Dw
open Go Go.Dx Go.Proofs Go.Mt
set_option maxRecDepth 100000
structure ByAt (h0 h : Heap) (n ob : Nat) (L : Nat -> Value) (G : Nat -> List Nat) : Prop where
  o : h.get ob = some (.cells ((List.range n).map L) 31 false)
  leaf : ∀ r, r < n -> FreshSl h0 h (L r) 3 1 ((G r).map fun (r : Nat) => i64 r) (G r).length
  linj : ∀ r r', r < n -> r' < n -> ∀ b, blkOf (L r) = some b -> blkOf (L r') = some b -> r = r'
  nr : h0.nx <= ob
theorem ByAt.ke {h0 h h' : Heap} {n ob : Nat} {L : Nat -> Value} {G : Nat -> List Nat} (a : ByAt h0 h n ob L G) (hk : ∀ b vs el op, (b = ob \/ ∃ r, r < n /\ blkOf (L r) = some b) -> h.get b = some (.cells vs el op) -> h'.get b = some (.cells vs el op)) : ByAt h0 h' n ob L G :=
  ⟨hk _ _ _ _ (.inl rfl) a.o, fun r hr => (a.leaf r hr).keep fun b o hb hg => by
    obtain ⟨⟨op, h1⟩, _⟩ := (a.leaf r hr).at3 hb
    rw [h1] at hg; cases hg
    exact hk _ _ _ _ (.inr ⟨r, hr, hb⟩) h1, a.linj, a.nr⟩
theorem ByAt.ext {h0 h h' : Heap} {n ob : Nat} {L : Nat -> Value} {G : Nat -> List Nat} (a : ByAt h0 h n ob L G) (he : Ext h h') : ByAt h0 h' n ob L G := a.ke fun _ _ _ _ _ hg => he.get hg
theorem ByAt.oc {h0 h : Heap} {n ob : Nat} {L : Nat -> Value} {G : Nat -> List Nat} (a : ByAt h0 h n ob L G) {r : Nat} (hr : r < n) : cellAt h ob (0 + r * 1) = some (L r) := cellAt_cells a.o (nth_range hr)
def updN {α : Type} (G : Nat -> α) (c : Nat) (x : α) : Nat -> α := fun c' => if c' = c then x else G c'
theorem updN_same {α : Type} (G : Nat -> α) (c : Nat) (x : α) : updN G c x c = x := by simp [updN]
theorem updN_other {α : Type} (G : Nat -> α) {c c' : Nat} (x : α) (h : c' ≠ c) : updN G c x c' = G c' := by simp [updN, h]
theorem ByAt.push {h0 h h1 h' : Heap} {n ob r x : Nat} {L : Nat -> Value} {G : Nat -> List Nat} {v : Value} (a : ByAt h0 h n ob L G) (hw : WF h) (hr : r < n) (hF : FreshSl h0 h1 v 3 1 (((G r).map fun (r : Nat) => i64 r) ++ [i64 (x : Nat)]) ((G r).length + 1)) (hK : Keep h h1 (blkOf (L r))) (hv : blkOf v = blkOf (L r) \/ ∃ b, blkOf v = some b /\ h.nx <= b)
    (hU : Upd h1 ob (.cells (((List.range n).map L).set r v) 31 false) h') : ByAt h0 h' n ob (updN L r v) (updN G r (G r ++ [x])) := by
  have hoo : h1.get ob = some (.cells ((List.range n).map L) 31 false) := hK _ _ (fun e => by
    obtain ⟨⟨op0, hg⟩, _⟩ := (a.leaf r hr).at3 e
    exact absurd (cells_el hg a.o) (by decide)) a.o
  have hlt : ∀ r' b, r' < n -> blkOf (L r') = some b -> b < h.nx := fun r' b hr' hb => by
    obtain ⟨⟨op0, hg⟩, _⟩ := (a.leaf r' hr').at3 hb
    exact hw _ _ hg
  have hleaf : ∀ r', r' < n -> FreshSl h0 h1 (updN L r v r') 3 1 ((updN G r (G r ++ [x]) r').map fun (r : Nat) => i64 r) (updN G r (G r ++ [x]) r').length := fun r' hr' => by
    by_cases hc : r' = r
    · rw [hc, updN_same, updN_same, List.map_append, List.length_append]; exact hF
    · rw [updN_other _ _ hc, updN_other _ _ hc]
      exact (a.leaf r' hr').keep fun b o hb hg => hK _ _ (fun e => hc (a.linj r' r hr' hr b hb e)) hg
  refine ⟨?_, fun r' hr' => (hleaf r' hr').keep fun b o hb hg => hU.get (fun e => ?_) hg, fun r1 r2 h1' h2' b hb1 hb2 => ?_, a.nr⟩
  · rw [hU.at', range_set _ _ hr]
    rfl
  · obtain ⟨⟨op0, h2⟩, _⟩ := (hleaf r' hr').at3 hb
    exact absurd (cells_el hoo (e ▸ h2)) (by decide)
  · by_cases e1 : r1 = r <;> by_cases e2 : r2 = r
    · omega
    · rw [e1, updN_same] at hb1
      rw [updN_other _ _ e2] at hb2
      rcases hv with e | ⟨b', e, hb'⟩
      · rw [e] at hb1; exact absurd (a.linj r2 r h2' hr b hb2 hb1) e2
      · rw [e] at hb1; cases hb1
        have := hlt r2 _ h2' hb2; omega
    · rw [e2, updN_same] at hb2
      rw [updN_other _ _ e1] at hb1
      rcases hv with e | ⟨b', e, hb'⟩
      · rw [e] at hb2; exact absurd (a.linj r1 r h1' hr b hb1 hb2) e1
      · rw [e] at hb2; cases hb2
        have := hlt r1 _ h1' hb1; omega
    · rw [updN_other _ _ e1] at hb1
      rw [updN_other _ _ e2] at hb2
      exact a.linj r1 r2 h1' h2' b hb1 hb2
theorem nats_map (s : List Nat) : (s.map fun (r : Nat) => i64 r) = (s.map fun (r : Nat) => (r : Int)).map i64 := by rw [List.map_map]; rfl
theorem natsL_cast (s : List Nat) : natsL (s.map fun (r : Nat) => (r : Int)) = s := by
  unfold natsL
  rw [List.map_map]
  conv => rhs; rw [<- List.map_id s]
  exact List.map_congr_left fun x _ => Int.toNat_natCast x
def byI (h0 : Heap) (n ob : Nat) (L : Nat -> Value) (G : Nat -> List Nat) : It where
  S := fun c => c = ob \/ ∃ r, r < n /\ blkOf (L r) = some c
  p := fun h => ByAt h0 h n ob L G
  loc := fun hk a => a.ke fun b _ _ _ hb hg => hk b _ hb hg
  ex := fun {h c} a hc => by
    rcases hc with rfl | ⟨r, hr, hb⟩
    · exact ⟨_, a.o⟩
    · obtain ⟨op, h1⟩ := (a.leaf r hr).got hb
      exact ⟨_, h1⟩
theorem ByAt.oo {h0 h h1 : Heap} {n ob r : Nat} {L : Nat -> Value} {G : Nat -> List Nat} (a : ByAt h0 h n ob L G) (hr : r < n) (hK : Keep h h1 (blkOf (L r))) : h1.get ob = some (.cells ((List.range n).map L) 31 false) := hK _ _ (fun e => by
  obtain ⟨op0, hg⟩ := (a.leaf r hr).got e
  exact absurd (cells_el hg a.o) (by decide)) a.o
theorem Own.pushBy {h0 h1 h2 h3 h4 : Heap} {n ob r x : Nat} {L : Nat -> Value} {G : Nat -> List Nat} {l : List It} {v : Value} (hO : Own h0 h1 (byI h0 n ob L G :: l)) (hw0 : WF h0) (hw : WF h1) (hw2 : WF h2) (he0 : Ext h0 h1) (hE : Ext h1 h2) (hr : r < n) (hF : FreshSl h0 h3 v 3 1 (((G r).map fun (r : Nat) => i64 r) ++ [i64 (x : Nat)]) ((G r).length + 1)) (hE3 : Ext h0 h3) (hK : Keep h2 h3 (blkOf (L r))) (hx : h2.nx <= h3.nx) (hv : blkOf v = blkOf (L r) \/ ∃ b, blkOf v = some b /\ h2.nx <= b)
    (hU : Upd h3 ob (.cells (((List.range n).map L).set r v) 31 false) h4) : Own h0 h4 (byI h0 n ob (updN L r v) (updN G r (G r ++ [x])) :: l) /\ Ext h0 h4 := by
  have hB : ByAt h0 h2 n ob L G := (show ByAt h0 h1 n ob L G from hO.p1).ext hE
  have hX : Exb (byI h0 n ob L G).S h1 h4 := by
    have k1 : Exb (byI h0 n ob L G).S h2 h3 := ⟨fun b o hb hg => hK b o (fun e => hb (.inr ⟨r, hr, e⟩)) hg, hx, (hE3.2.2).trans (he0.trans hE).2.2.symm⟩
    exact ((Exb.of hE).trans k1).trans ((Exb.ofUpd hU).mono fun _ hc => .inl hc)
  refine ⟨hO.put hw he0.2.1 hX (hB.push hw2 hr hF hK hv hU) fun c hc => ?_, hO.grows hX he0 hw0⟩
  rcases hc with rfl | ⟨r', hr', hb⟩
  · exact .inl (.inl rfl)
  · by_cases e : r' = r
    · rw [e, updN_same] at hb
      rcases hv with g | ⟨b, g, hb'⟩
      · rw [g] at hb; exact .inl (.inr ⟨r, hr, hb⟩)
      · rw [g] at hb; cases hb
        exact .inr (Nat.le_trans hE.2.1 hb')
    · rw [updN_other _ _ e] at hb; exact .inl (.inr ⟨r', hr', hb⟩)
theorem cut_flat {α : Type} {f : α -> List Value} {k : Nat} : ∀ {P : List α} {i : Nat} (hi : i < P.length), (∀ p ∈ P, (f p).length = k) -> cut (P.flatMap f) (i * k) k = some (f P[i])
  | p :: P, 0, _, h => by
    have hp := h p List.mem_cons_self
    rw [List.flatMap_cons, Nat.zero_mul, cut_le (by rw [List.length_append]; omega)]
    simp only [List.drop_zero, List.getElem_cons_zero, Option.some.injEq]
    rw [<- hp]
    exact List.take_left
  | p :: P, i + 1, hi, h => by
    have hp := h p List.mem_cons_self
    have ih := cut_flat (f := f) (k := k) (P := P) (i := i) (by simpa using hi) fun q hq => h q (List.mem_cons_of_mem _ hq)
    rw [List.flatMap_cons, List.getElem_cons_succ, <- ih]
    have hle : i * k + k <= (P.flatMap f).length := by
      have hl : (P.flatMap f).length = P.length * k := by
        have : ∀ {Q : List α}, (∀ p ∈ Q, (f p).length = k) -> (Q.flatMap f).length = Q.length * k := by
          intro Q hQ
          induction Q with
          | nil => simp
          | cons q Q ihQ => rw [List.flatMap_cons, List.length_append, hQ q List.mem_cons_self, ihQ fun x hx => hQ x (List.mem_cons_of_mem _ hx), List.length_cons, Nat.succ_mul, Nat.add_comm]
        exact this fun q hq => h q (List.mem_cons_of_mem _ hq)
      have : i + 1 <= P.length := by
        have : i + 1 < (p :: P).length := hi
        rw [List.length_cons] at this; omega
      rw [hl, <- Nat.succ_mul]
      exact Nat.mul_le_mul_right k this
    rw [cut_le hle, cut_le (by rw [List.length_append, hp, Nat.succ_mul]; omega), Nat.succ_mul]
    congr 2
    rw [List.drop_append, List.drop_eq_nil_of_le (by omega), hp]
    simp
def lvI (h0 : Heap) (P : List (Lat × Value)) : It where
  S := fun c => ∃ p ∈ P, blkOf p.2 = some c
  p := fun h => ∀ p ∈ P, FreshSl h0 h p.2 3 1 (p.1.by'.map i64) p.1.by'.length
  loc := fun hk a p hp => (a p hp).keep fun b o hb hg => hk b o ⟨p, hp, hb⟩ hg
  ex := fun {h c} a hc => by
    obtain ⟨p, hp, hb⟩ := hc
    obtain ⟨op, h1⟩ := (a p hp).got hb
    exact ⟨_, h1⟩
def latRow (p : Lat × Value) : List Value := [i64 p.1.reel, p.2]
theorem ints_len' (l : List Nat) : (ints l).length = l.length := List.length_map _
theorem lats_of {h0 h : Heap} {v : Value} {P : List (Lat × Value)} (hF : FreshSl h0 h v 61 2 (P.flatMap latRow) P.length) (hB : (lvI h0 P).p h) : ∃ a, v = .slice a P.length P.length /\ LatsAt h a (P.map Prod.fst) := by
  rcases hF with ⟨rfl, _, hn⟩ | ⟨b, sp, op, rfl, hg, _⟩
  · refine ⟨none, by rw [hn], fun i hi => ?_⟩
    rw [List.length_map, hn] at hi; omega
  · refine ⟨_, rfl, fun i hi => ⟨b, 0, sp, rfl, _, rowAt_cells hg (by rw [Nat.zero_add]; exact cut_flat (by simpa using hi) fun _ _ => rfl), ?_⟩⟩
    have hi' : i < P.length := by simpa using hi
    obtain ⟨a, e, _, hs⟩ := (hB P[i] (List.getElem_mem hi')).srcAt
    rw [List.getElem_map]
    exact ⟨a, _, by unfold latRow; rw [e], hs⟩
open Classical in
noncomputable def byK (t : Task) (kept : List Nat) (r k : Nat) : List Nat := (List.range k).flatMap fun i => if fitN t (kept.take i ++ kept.drop (i + 1) ++ [r]) then [kept.getD i 0] else []
theorem byK_len (t : Task) (kept : List Nat) (r k : Nat) : (byK t kept r k).length <= k := by
  induction k with
  | zero => exact Nat.le_refl _
  | succ k ih =>
    unfold byK at ih ⊢
    rw [List.range_succ, List.flatMap_append, List.length_append, List.flatMap_cons, List.flatMap_nil, List.append_nil]
    refine Nat.add_le_add ih ?_
    split
    · exact Nat.le_refl _
    · exact Nat.zero_le _
open Classical in
theorem byK_succ {t : Task} {kept : List Nat} {r k : Nat} (hk : k < kept.length) : byK t kept r (k + 1) = byK t kept r k ++ if fitN t (kept.take k ++ kept.drop (k + 1) ++ [r]) then [kept[k]] else [] := by
  unfold byK
  rw [List.range_succ, List.flatMap_append, List.flatMap_cons, List.flatMap_nil, List.append_nil, List.getD_eq_getElem?_getD, List.getElem?_eq_getElem hk, Option.getD_some]
set_option maxHeartbeats 8000000 in
theorem refChosen_sv {tc : List Value} {t : Task} {h : Heap} (ht : TaskAt h tc t) (hf : t.Fit) (hV : Valid t) :
    Sv Tryz.prog 64 [.agg ⟨tc⟩] h (RetP fun v h' => ∃ v1 a, v = .tuple ⟨[v1, .slice a (lateL t).length (lateL t).length]⟩ /\ FreshSl h h' v1 3 1 ((keptI t).map i64) (keptI t).length /\ LatsAt h' a (lateL t) /\ Ext h h') := by
  have ht0 := ht
  obtain ⟨am, cm, ar, cr, rfl, hM, hR⟩ := ht
  have hr1 := hV.r1
  have hrs := hf.rs
  refine Sv_wf fun hw => ?_
  refine Sv_enter Tryz.func64 rfl (by rw [Tryz.ntmps64]; rfl) ?_; show Wc Tryz.prog ⟨64, 97, none⟩ _ _ _ _ _
  refine zz ?_
  refine Wo_box rfl rfl rfl fun h1 hE1 hW1 hg1 hn1 => ?_
  refine zz ?_
  refine Wo_callr rfl rfl rfl rfl rfl Bod.h rfl rfl (refOrder_sv (ht0.ext hE1) hf hV) ?_
  rintro v4 h2 ⟨ord, hF4, hp4, hb4, hE2⟩
  obtain rfl := ord_eq hp4 hb4
  have hO1 := (Own.nil h h).newCe hw (Nat.le_refl _) hE1 hg1 (Nat.le_refl _)
  have hO2 := hO1.newSl hW1 hE1.2.1 hE2 hF4
  replace hg1 := hE2.get hg1
  replace hE1 := hE1.trans hE2
  clear hW1 hn1 hE2 hO1 hF4
  clear h1
  refine Wo_wf fun hW2 => ?_
  refine zz ?_
  refine Wo_makeSlice (k := t.reels.length) rfl rfl Und.h (by' := 24) inferInstance Zr.h rfl rfl rfl (by omega) (by omega) fun h3 hE3 hW3 hg3 hx3 => ?_
  refine zz ?_
  have hB3 : ByAt h h3 t.reels.length h2.nx (fun _ => .slice none 0 0) (fun _ => []) := by
    refine ⟨?_, fun _ _ => FreshSl.nil _ _ _ _, (fun _ _ _ _ _ hb => nomatch hb), hE1.2.1⟩
    rw [hg3]
    congr 2
    exact rep_range _ _
  have hO3 := (hO2.new (y := byI h t.reels.length h2.nx (fun _ => .slice none 0 0) (fun _ => [])) hW2 hE1.2.1 hE3 hB3 fun c hc => by
    rcases hc with rfl | ⟨r, _, hb⟩
    · exact Nat.le_refl _
    · cases hb).nilSl 3 1
  replace hE1 := hE1.trans hE3
  clear hE3 hW3 hg3 hx3 hO2 hg1 hB3
  generalize h2.nx = ob at *
  clear hW2
  clear h2
  have hol : (ordN t).length = t.reels.length := by rw [hp4.length_eq, List.length_range]
  have horn : ∀ r ∈ ordN t, r < t.reels.length := fun r hr => mem_ordN.1 hr
  have hond : (ordN t).Nodup := ordN_nodup t
  generalize hord : ordN t = ord at *
  refine Wc_loop (fun (i : Nat) m ds h' => ds = [] /\ i <= ord.length /\ Ext h h' ∧
      ∃ (v5 : Value) (L : Nat -> Value) (G : Nat -> List Nat), Own h h' [slI h v5 3 1 ((goN t (ord.take i)).1.map fun (r : Nat) => i64 r) (goN t (ord.take i)).1.length, byI h t.reels.length ob L G, slI h v4 3 1 (ord.map fun (r : Nat) => i64 r) ord.length, ceI h.nx [i64 t.first, i64 t.days, .slice am t.machines.length cm, .slice ar t.reels.length cr] 25 false] /\ (∀ p ∈ (goN t (ord.take i)).2, G p.1 = p.2) /\ (∀ r, r ∉ (goN t (ord.take i)).2.map Prod.fst -> G r = []) ∧
      AllK m [(1, ptr h.nx), (4, v4), (5, v5), (6, .slice (some ⟨ob, 0, none⟩) t.reels.length t.reels.length), (7, i64 i)]) (fun i => ord.length - i) 0 ?_ ?_
  · exact ⟨rfl, Nat.zero_le _, hE1, _, _, _, hO3, (fun p hp => (List.not_mem_nil (show p ∈ ([] : List (Nat × List Nat)) from hp)).elim), (fun _ _ => rfl), rfl, rfl, rfl, rfl, rfl, trivial⟩
  clear hO3 hE1
  clear h3
  rintro i m ds h1 ⟨rfl, hi, hE1, v5, L, G, hO, hG1, hG2, hall⟩
  refine Wc_wf fun hw1 => ?_
  refine Wc.le ?_ (Le.kn hall)
  have hF5 := hO.p1
  have hB := hO.p2
  have hF4 := hO.p3
  have hg1 := hO.p4
  change FreshSl h h1 v5 3 1 _ _ at hF5
  change ByAt h h1 t.reels.length ob L G at hB
  change FreshSl h h1 v4 3 1 _ _ at hF4
  change h1.get h.nx = _ at hg1
  obtain ⟨a4, rfl, _, hs4⟩ := hF4.srcAt
  refine zz ?_
  refine Wo_dec rfl rfl rfl rfl (A_lss rfl rfl) (fun hip => ?_) (fun hip => ?_)
  rotate_left
  · have : i = ord.length := by omega
    subst this
    rw [List.take_length] at hO hF5 hG1 hG2
    subst hord
    clear hs4 hB hF4 hg1 hip
    rw [nats_map] at hF5
    have hkl : (ints (goT t).1).length = (goT t).1.length := ints_len' _
    have hkn : (goT t).1.length <= t.reels.length := by
      have := (goT_sub t).length_le
      omega
    rw [<- hkl] at hF5
    obtain ⟨a5, rfl, _, hs5⟩ := hF5.srcAt
    replace hO := ((hO.sub (.cons_cons _ (.cons_cons _ (.cons _ (.refl _))))).new (y := lvI h []) hw1 hE1.2.1 (Ext.refl _) (fun _ hp => nomatch hp) (fun c hc => by obtain ⟨p, hp, _⟩ := hc; cases hp)).nilSl 61 2
    refine zz ?_
    refine Wc_loop (fun (k : Nat) m ds h' => ds = [] /\ k <= t.reels.length /\ Ext h h' ∧
        ∃ (v9 : Value) (P : List (Lat × Value)), Own h h' [slI h v9 61 2 (P.flatMap latRow) P.length, lvI h P, slI h (.slice a5 (ints (goT t).1).length (ints (goT t).1).length) 3 1 ((goT t).1.map fun (r : Nat) => i64 r) (goT t).1.length, byI h t.reels.length ob L G, ceI h.nx [i64 t.first, i64 t.days, .slice am t.machines.length cm, .slice ar t.reels.length cr] 25 false] ∧
        P.map Prod.fst = ((List.range k).filter fun (r : Nat) => !decide ((r : Int) ∈ keptI t)).map (latOf t) ∧
        AllK m [(1, ptr h.nx), (5, .slice a5 (ints (goT t).1).length (ints (goT t).1).length), (6, .slice (some ⟨ob, 0, none⟩) t.reels.length t.reels.length), (9, v9), (10, i64 k)]) (fun k => t.reels.length - k) 0 ?_ ?_
    · exact ⟨rfl, Nat.zero_le _, hE1, _, [], hO, rfl, rfl, rfl, rfl, rfl, rfl, trivial⟩
    clear hO hE1 hs5 hw1 hF5 hall
    clear h1 m
    rintro k m ds h1 ⟨rfl, hk, hE1, v9, P, hO, hP, hall⟩
    refine Wc_wf fun hw1 => ?_
    refine Wc.le ?_ (Le.kn hall)
    have hg1 : h1.get h.nx = _ := hO.up4.dn4.tail.p4
    have hF5 : FreshSl h h1 _ 3 1 _ _ := hO.p3
    have hB : ByAt h h1 t.reels.length ob L G := hO.p4
    rw [nats_map, <- hkl] at hF5
    obtain ⟨a5', e5, _, hs5⟩ := hF5.srcAt
    simp only [Value.slice.injEq] at e5
    obtain ⟨rfl, _, _⟩ := e5
    have hPl : P.length <= k := by
      have := congrArg List.length hP
      rw [List.length_map, List.length_map] at this
      rw [this]
      exact Nat.le_trans (List.length_filter_le _ _) (by rw [List.length_range]; exact Nat.le_refl _)
    refine zz ?_
    refine Wo_dec rfl rfl rfl rfl (A_lss rfl rfl) (fun hkq => ?_) (fun hkq => ?_)
    rotate_left
    · have hkk : k = t.reels.length := by omega
      subst hkk
      refine zz ?_
      refine Wo_callr rfl rfl rfl rfl rfl Bod.h rfl rfl (refSorted_sv hs5.1 (by omega)) ?_
      rintro v95 h2 ⟨s, hFs, hps, hss, hE2⟩
      obtain rfl := sortI_eq hps hss
      obtain ⟨a9, rfl, hL9⟩ := lats_of hO.p1 hO.p2
      have hPL : P.map Prod.fst = lateL t := hP
      have hPn : P.length = (lateL t).length := by rw [<- hPL, List.length_map]
      rw [hPL] at hL9
      refine zz ?_
      rw [hPn]
      exact Wc_ret (Lv_ret rfl ⟨_, a9, rfl, hFs.base hE1.2.1, hL9.ext hE2, hE1.trans hE2⟩)
    have hk' : k < t.reels.length := by omega
    refine zz ?_
    refine Wo_callr rfl rfl rfl rfl rfl Bod.h rfl rfl (has_sv (n := (k : Nat)) hs5.1 (by show _ < _; omega)) ?_
    rintro _ h2 ⟨rfl, rfl⟩
    have hmk : ((k : Int) ∈ ints (goT t).1) ↔ (k : Int) ∈ keptI t := by rw [mem_keptI, mem_ints]
    by_cases hin : (k : Int) ∈ ints (goT t).1
    · rw [decide_eq_true hin]
      refine zz ?_
      refine ⟨k + 1, ?_, rfl, hk', hE1, v9, P, hO, ?_, rfl, rfl, rfl, rfl, rfl, trivial⟩
      · show t.reels.length - (k + 1) < t.reels.length - k; omega
      · rw [hP, List.range_succ, List.filter_append, List.filter_cons, if_neg (by simp [hmk.1 hin])]
        simp
    rw [decide_eq_false hin]
    have hLk := hB.oc hk'
    obtain ⟨ak, ek, _, hsk⟩ := (by have := hB.leaf k hk'; rw [nats_map, <- ints_len' (G k)] at this; exact this : FreshSl h h2 (L k) 3 1 ((ints (G k)).map i64) (ints (G k)).length).srcAt
    have hkl8 : k ∈ lateN t := List.mem_filter.2 ⟨List.mem_range.2 hk', by rw [decide_eq_false fun g => hin (hmk.2 g)]; rfl⟩
    have hGk : G k = byOf t k := by
      obtain ⟨p, hp, e⟩ := List.mem_map.1 (late_iff.1 hkl8)
      rw [<- e, hG1 p hp, byOf_mem hp]
    have hGl : (G k).length < 1000000 := by
      obtain ⟨h1, h2, _⟩ := late_law hV hkl8
      have := nodup_le h1 fun x hx => (h2 x hx).1
      rw [hGk]; omega
    rw [ek] at hLk
    refine zz ?_
    refine Wo_do rfl rfl rfl rfl (A_ix Und.h Tsz.h rfl rfl) ?_
    refine zz ?_
    refine Wo_callr rfl rfl rfl rfl rfl Bod.h rfl rfl (refSorted_sv hsk.1 (by rw [ints_len']; exact hGl)) ?_
    rintro v90 h3 ⟨s, hFs, hps, hss, hE3⟩
    obtain rfl := sortI_eq hps hss
    have hO3 := hO.newSl hw1 hE1.2.1 hE3 hFs
    obtain ⟨a90, rfl, _, _⟩ := hFs.is
    replace hE1 := hE1.trans hE3
    clear hFs hE3
    refine zz ?_
    refine Wo_do rfl rfl rfl rfl (A_build rfl rfl) ?_
    refine Wo_bs rfl rfl Und.h Tsz.h Zr.h rfl rfl rfl rfl rfl fun h4 hE4 hW4 hg4 hx4 => ?_
    refine zz ?_
    refine Wo_appendO (by' := 32) (sz := 2) (k := 1) (n := P.length) (l := [i64 (k : Nat), .slice a90 (sortI (ints (G k))).length (sortI (ints (G k))).length]) hw (hE1.trans hE4) rfl rfl rfl rfl rfl Und.h inferInstance rfl rfl (hO3.up2.ext hE4) ((FreshSl.lit (h0 := h) (n := 1) (sz := 2) (cs := [i64 (k : Nat), .slice a90 (sortI (ints (G k))).length (sortI (ints (G k))).length]) hg4 rfl hE1.2.1).src (dd := .slice 61) Und.h (by intro k; simp)) rfl rfl (by omega) (by omega) fun v10 h10 hW10 hO10 hE10 => ?_
    have hO11 := (hO10.dn3.merge (z := lvI h (P ++ [(latOf t k, .slice a90 (sortI (ints (G k))).length (sortI (ints (G k))).length)])) (fun hx hy p hp => by
      rcases List.mem_append.1 hp with g | g
      · exact hy p g
      · rw [List.mem_singleton.1 g]
        have e : (latOf t k).by' = sortI (ints (G k)) := by rw [hGk]; rfl
        show FreshSl h h10 _ 3 1 ((latOf t k).by'.map i64) (latOf t k).by'.length
        rw [e]
        exact hx) (fun c hc => by
      obtain ⟨p, hp, hb⟩ := hc
      rcases List.mem_append.1 hp with g | g
      · exact .inr ⟨p, g, hb⟩
      · rw [List.mem_singleton.1 g] at hb; exact .inl hb)).up2
    refine zz ?_
    refine ⟨k + 1, ?_, rfl, hk', hE10, v10, P ++ [(latOf t k, .slice a90 (sortI (ints (G k))).length (sortI (ints (G k))).length)], ?_, ?_, rfl, rfl, rfl, rfl, rfl, trivial⟩
    · show t.reels.length - (k + 1) < t.reels.length - k; omega
    · rw [List.flatMap_append, List.length_append]
      exact hO11
    · rw [List.map_append, hP, List.range_succ, List.filter_append, List.map_append, List.filter_cons, if_pos (by rw [decide_eq_false fun g => hin (hmk.2 g)]; rfl)]
      rfl
  have hi' : i < ord.length := by omega
  obtain ⟨b4, o4, oa4, rfl, hc4⟩ := hs4.1 i hi'
  generalize hkp : (goN t (ord.take i)).1 = kp at *
  have hksub : kp.Sublist ord := by rw [<- hkp]; exact (goN_sub t _).trans (List.take_sublist _ _)
  have hkl := hksub.length_le
  have hri := horn _ (List.getElem_mem hi')
  rw [nats_map] at hF5
  have hkm : (kp.map fun (r : Nat) => (r : Int)).length = kp.length := List.length_map _
  rw [<- hkm] at hF5
  obtain ⟨a5, rfl, _, hs5⟩ := hF5.srcAt
  have hw5 := refWith_sv (x := (ord[i] : Nat)) (cap := (kp.map fun (r : Nat) => (r : Int)).length) hs5 (by omega)
  refine zz ?_
  refine Wc_draw hmix [0, 0, 0, 0, 12, 28, 62, 127] [0, 1, 2, 3, 4, 5] (some 6) [([], (some 7)), ([], none)] (by kernel_rfl) (by kernel_rfl) ?_
  refine z_r ?_; refine z_m ?_; refine z_m ?_; refine z_m ?_; refine z_i ?_; refine z_l ?_
  refine Wp_eff [1, 2, 3, 4, 5] (by kernel_rfl) rfl (Stl_nil rfl) rfl nb rfl (W1_call rfl rfl rfl rfl rfl Bod.h hw5 (fun v6 h6 hv => ?_) (fun _ _ hR => hR.elim))
  obtain ⟨hF6, hE6⟩ := hv
  have hg16 := hE6.get hg1
  have hcs : (kp.map fun (r : Nat) => (r : Int)) ++ [((ord[i] : Nat) : Int)] = (kp ++ [ord[i]]).map fun (r : Nat) => (r : Int) := by simp
  have hknd : (kp ++ [ord[i]]).Nodup := by
    have h1 : (ord.take (i + 1)).Nodup := hond.sublist (List.take_sublist _ _)
    rw [take_succ hi'] at h1
    exact h1.sublist ((by rw [<- hkp]; exact goN_sub t _ : kp.Sublist (ord.take i)).append (List.Sublist.refl _))
  have hkr : ∀ x ∈ kp ++ [ord[i]], x < t.reels.length := fun x hx => by
    rcases List.mem_append.1 hx with g | g
    · exact horn x (hksub.subset g)
    · rw [List.mem_singleton.1 g]; exact hri
  rw [hcs] at hF6
  obtain ⟨a6, rfl, _, hs6⟩ := hF6.srcAt
  have hfit := refFitsIn_sv (cap := ((kp ++ [ord[i]]).map fun (r : Nat) => (r : Int)).length) (ht0.ext (hE1.trans hE6)) hf hV hs6.1 (map_nodup (fun a _ b _ e => by omega) hknd) (fun x hx => by
    obtain ⟨r, hr, rfl⟩ := List.mem_map.1 hx
    have := hkr r hr; omega) (by rw [List.length_map, List.length_append]; simp; omega)
  rw [natsL_cast] at hfit
  refine Wp_eff [0, 1, 2, 3, 4, 5, 6] (by kernel_rfl) rfl (by refine t_r 0 ?_; exact Stl_nil rfl) rfl nb rfl (W1_call rfl rfl rfl rfl rfl Bod.h hfit (fun v7 h7 hv => ?_) (fun _ _ hR => hR.elim))
  obtain ⟨b7, rfl, hb7, hE7⟩ := hv
  refine Wp_end (Stl_nil rfl) nb' ?_
  have hE17 := hE6.trans hE7
  replace hO := hO.ext hE17
  replace hc4 := hE17.cell hc4
  replace hE1 := hE1.trans hE17
  clear hg16 hE6 hE7 hE17 hF6 hs6 hfit hw5 hB hF4 hg1 hF5 hs5 hs4
  clear hw1
  clear h1
  cases b7
  rotate_left
  · have hfn : fitN t (kp ++ [ord[i]]) := hb7.1 rfl
    refine zz ?_
    refine Wo_do rfl rfl rfl rfl (A_ix Und.h Tsz.h rfl rfl) ?_
    refine zz ?_
    refine Wo_bs rfl rfl Und.h Tsz.h Zr.h rfl rfl rfl rfl rfl fun h8 hE8 hW8 hg8 hx8 => ?_
    refine zz ?_
    refine Wo_appendO (by' := 8) (k := 1) (n := kp.length) (l := [i64 (ord[i] : Nat)]) hw (hE1.trans hE8) rfl rfl rfl rfl rfl Und.h inferInstance rfl rfl (hO.ext hE8) ((FreshSl.lit (h0 := h) (n := 1) (sz := 1) (cs := [i64 (ord[i] : Nat)]) hg8 rfl hE1.2.1).src (dd := .slice 3) Und.h (by intro k; simp)) rfl rfl (by omega) (by omega) fun v9 h9 hW9 hO9 hE9 => ?_
    refine zz ?_
    have hgo : goN t (ord.take (i + 1)) = (kp ++ [ord[i]], (goN t (ord.take i)).2) := by
      rw [take_succ hi', goN_snoc, stepN, hkp, if_pos hfn]
    refine ⟨i + 1, ?_, rfl, hi', hE9, v9, L, G, ?_, ?_, ?_, rfl, rfl, rfl, rfl, rfl, trivial⟩
    · show ord.length - (i + 1) < ord.length - i; omega
    · rw [hgo, List.map_append, List.length_append]; exact hO9
    · rw [hgo]; exact hG1
    · rw [hgo]; exact hG2
  have hnf : ¬ fitN t (kp ++ [ord[i]]) := fun g => nomatch hb7.2 g
  have hrnk : ord[i] ∉ kp := fun g => by
    have := List.nodup_append.1 hknd
    exact this.2.2 _ g _ (by simp) rfl
  have hrl : ord[i] ∉ (goN t (ord.take i)).2.map Prod.fst := fun g => by
    have h1 := (goN_keys t _).subset g
    have h2 : (ord.take (i + 1)).Nodup := hond.sublist (List.take_sublist _ _)
    rw [take_succ hi', List.nodup_append] at h2
    exact h2.2.2 _ h1 _ (by simp) rfl
  have hGr := hG2 _ hrl
  have hknd' : kp.Nodup := (List.nodup_append.1 hknd).1
  have hgo : goN t (ord.take (i + 1)) = (kp, (goN t (ord.take i)).2 ++ [(ord[i], byN t kp ord[i])]) := by
    rw [take_succ hi', goN_snoc, stepN, hkp, if_neg hnf]
  clear hb7
  refine zz ?_
  refine Wc_loop (fun (k : Nat) m ds h' => ds = [] /\ k <= kp.length /\ Ext h h' ∧
      ∃ (L : Nat -> Value), Own h h' [slI h (.slice a5 (kp.map fun (r : Nat) => (r : Int)).length (kp.map fun (r : Nat) => (r : Int)).length) 3 1 (kp.map fun (r : Nat) => i64 r) kp.length, byI h t.reels.length ob L (updN G ord[i] (byK t kp ord[i] k)), slI h (.slice (some ⟨b4, o4, oa4⟩) ord.length ord.length) 3 1 (ord.map fun (r : Nat) => i64 r) ord.length, ceI h.nx [i64 t.first, i64 t.days, .slice am t.machines.length cm, .slice ar t.reels.length cr] 25 false] ∧
      AllK m [(1, ptr h.nx), (4, .slice (some ⟨b4, o4, oa4⟩) ord.length ord.length), (5, .slice a5 (kp.map fun (r : Nat) => (r : Int)).length (kp.map fun (r : Nat) => (r : Int)).length), (6, .slice (some ⟨ob, 0, none⟩) t.reels.length t.reels.length), (7, i64 i), (8, i64 k)]) (fun k => kp.length - k) 0 ?_ ?_
  · refine ⟨rfl, Nat.zero_le _, hE1, L, ?_, rfl, rfl, rfl, rfl, rfl, rfl, trivial⟩
    have e : updN G ord[i] (byK t kp ord[i] 0) = G := by
      funext x
      by_cases hx : x = ord[i]
      · rw [hx, updN_same, hGr]; rfl
      · rw [updN_other _ _ hx]
    rw [e]; exact hO
  clear hO hE1 hc4 hall
  clear h7 m
  rintro k m ds h1 ⟨rfl, hk, hE1, L', hO, hall⟩
  refine Wc_wf fun hw1 => ?_
  refine Wc.le ?_ (Le.kn hall)
  have hF5 : FreshSl h h1 _ 3 1 _ _ := hO.p1
  have hB : ByAt h h1 t.reels.length ob L' _ := hO.p2
  have hF4 : FreshSl h h1 _ 3 1 _ _ := hO.p3
  have hg1 : h1.get h.nx = _ := hO.p4
  rw [nats_map, <- hkm] at hF5
  refine zz ?_
  refine Wo_dec rfl rfl rfl rfl (A_lss rfl rfl) (fun hkq => ?_) (fun hkq => ?_)
  rotate_left
  · have hkk : k = kp.length := by omega
    subst hkk
    refine zz ?_
    refine ⟨i + 1, ?_, rfl, hi', hE1, _, L', updN G ord[i] (byN t kp ord[i]), ?_, ?_, ?_, rfl, rfl, rfl, rfl, rfl, trivial⟩
    · show ord.length - (i + 1) < ord.length - i; omega
    · rw [hgo]; exact hO
    · rw [hgo]
      intro p hp
      rcases List.mem_append.1 hp with g | g
      · rw [updN_other _ _ (fun e => hrl (List.mem_map.2 ⟨p, g, e⟩))]; exact hG1 p g
      · rw [List.mem_singleton.1 g, updN_same]
    · rw [hgo]
      intro x hx
      simp only [List.map_append, List.map_cons, List.map_nil, List.mem_append, List.mem_singleton, not_or] at hx
      rw [updN_other _ _ hx.2]; exact hG2 x hx.1
  have hk' : k < kp.length := by omega
  have hkr' : ∀ x ∈ kp, x < t.reels.length := fun x hx => horn x (hksub.subset hx)
  obtain ⟨a4', e4, _, hs4⟩ := hF4.srcAt
  simp only [Value.slice.injEq] at e4
  obtain ⟨rfl, _, _⟩ := e4
  obtain ⟨b4', o4', oa4', e4', hc4⟩ := hs4.1 i hi'
  cases e4'
  have hkm' : k < (kp.map fun (r : Nat) => (r : Int)).length := by rw [hkm]; exact hk'
  have hwo := refWithout_sv (i := k) hF5 hkm' (by omega)
  refine zz ?_
  refine Wc_draw hmix [0, 0, 0, 6, 0, 0, 48, 112, 254, 511] [0, 1, 2, 4, 5, 6, 7] (some 3) [([], (some 8)), ([], (some 9)), ([], none)] (by kernel_rfl) (by kernel_rfl) ?_
  refine z_r ?_; refine z_m ?_; refine z_m ?_; refine z_m ?_; refine z_m ?_; refine z_i ?_; refine z_l ?_
  refine Wp_eff [1, 2] (by kernel_rfl) rfl (Stl_nil rfl) rfl nb rfl (W1_call rfl rfl rfl rfl rfl Bod.h hwo (fun v6 h6 hv => ?_) (fun _ _ hR => hR.elim))
  obtain ⟨hF6, hE6⟩ := hv
  have hcq : ((kp.map fun (r : Nat) => (r : Int)).take k ++ (kp.map fun (r : Nat) => (r : Int)).drop (k + 1)) = (kp.take k ++ kp.drop (k + 1)).map fun (r : Nat) => (r : Int) := by rw [List.map_append, List.map_take, List.map_drop]
  rw [hcq] at hF6
  obtain ⟨a6, rfl, _, hs6⟩ := hF6.srcAt
  replace hc4 := hE6.cell hc4
  replace hg1 := hE6.get hg1
  have hw6 := refWith_sv (x := (ord[i] : Nat)) (cap := ((kp.take k ++ kp.drop (k + 1)).map fun (r : Nat) => (r : Int)).length) hs6 (by simp; omega)
  refine Wp_eff [1, 2, 3, 4, 5, 6, 7] (by kernel_rfl) rfl (by refine t_l 7 ?_; refine t_i 6 ?_; refine t_m 5 ?_; refine t_m 4 ?_; refine t_r 0 ?_; exact Stl_nil rfl) rfl nb rfl (W1_call rfl rfl rfl rfl rfl Bod.h hw6 (fun v7 h7 hv => ?_) (fun _ _ hR => hR.elim))
  obtain ⟨hF7, hE7⟩ := hv
  have hcs7 : ((kp.take k ++ kp.drop (k + 1)).map fun (r : Nat) => (r : Int)) ++ [((ord[i] : Nat) : Int)] = (kp.take k ++ kp.drop (k + 1) ++ [ord[i]]).map fun (r : Nat) => (r : Int) := by simp
  have hsubk : (kp.take k ++ kp.drop (k + 1)).Sublist kp := by
    conv => rhs; rw [<- List.take_append_drop k kp]
    exact (List.Sublist.refl _).append (by rw [List.drop_eq_getElem_cons hk']; exact List.sublist_cons_self _ _)
  have hqnd : (kp.take k ++ kp.drop (k + 1) ++ [ord[i]]).Nodup := hknd.sublist (hsubk.append (List.Sublist.refl _))
  have hqr : ∀ x ∈ kp.take k ++ kp.drop (k + 1) ++ [ord[i]], x < t.reels.length := fun x hx => hkr x ((hsubk.append (List.Sublist.refl _)).subset hx)
  rw [hcs7] at hF7
  obtain ⟨a7, rfl, _, hs7⟩ := hF7.srcAt
  have hE67 := hE6.trans hE7
  have hfit := refFitsIn_sv (cap := ((kp.take k ++ kp.drop (k + 1) ++ [ord[i]]).map fun (r : Nat) => (r : Int)).length) (ht0.ext (hE1.trans hE67)) hf hV hs7.1 (map_nodup (fun a _ b _ e => by omega) hqnd) (fun x hx => by
    obtain ⟨r, hr, rfl⟩ := List.mem_map.1 hx
    have := hqr r hr; omega) (by simp; omega)
  rw [natsL_cast] at hfit
  replace hg1 := hE7.get hg1
  refine Wp_eff [0, 1, 2, 3, 4, 5, 6, 7, 8] (by kernel_rfl) rfl (by refine t_r 0 ?_; exact Stl_nil rfl) rfl nb rfl (W1_call rfl rfl rfl rfl rfl Bod.h hfit (fun v8 h8 hv => ?_) (fun _ _ hR => hR.elim))
  obtain ⟨b8, rfl, hb8, hE8⟩ := hv
  refine Wp_end (Stl_nil rfl) nb' ?_
  have hE18 := hE67.trans hE8
  replace hO := hO.ext hE18
  replace hE1 := hE1.trans hE18
  clear hE6 hE7 hE67 hE8 hE18 hF6 hF7 hs6 hs7 hfit hw6 hwo hc4 hg1 hB hF5 hF4 hs4 hw1 hall
  clear h7 h6 h1 m
  refine Wc_wf fun hw1 => ?_
  cases b8
  · refine zz ?_
    have hnf8 : ¬ fitN t (kp.take k ++ kp.drop (k + 1) ++ [ord[i]]) := fun g => nomatch hb8.2 g
    refine ⟨k + 1, ?_, rfl, hk', hE1, L', ?_, rfl, rfl, rfl, rfl, rfl, rfl, trivial⟩
    · show kp.length - (k + 1) < kp.length - k; omega
    · rw [byK_succ hk', if_neg hnf8, List.append_nil]; exact hO
  have hfn8 : fitN t (kp.take k ++ kp.drop (k + 1) ++ [ord[i]]) := hb8.1 rfl
  have hF5 : FreshSl h h8 _ 3 1 _ _ := hO.p1
  have hB : ByAt h h8 t.reels.length ob L' _ := hO.p2
  have hF4 : FreshSl h h8 _ 3 1 _ _ := hO.p3
  obtain ⟨a4', e4, _, hs4⟩ := hF4.srcAt
  simp only [Value.slice.injEq] at e4
  obtain ⟨rfl, _, _⟩ := e4
  obtain ⟨b4', o4', oa4', e4', hc4⟩ := hs4.1 i hi'
  cases e4'
  obtain ⟨a5', e5, _, hs5⟩ := hF5.srcAt
  simp only [Value.slice.injEq] at e5
  obtain ⟨rfl, _, _⟩ := e5
  obtain ⟨b5', o5', oa5', e5', hc5⟩ := hs5.1 k hk'
  cases e5'
  have hLr := hB.oc hri
  have hEa := Ext.add hw1 (.cells [i64 (kp[k] : Nat)] 3 false)
  have hc4a := hEa.cell hc4
  have hgl : (updN G ord[i] (byK t kp ord[i] k) ord[i]).length <= k := by rw [updN_same]; exact byK_len _ _ _ _
  have hLf := hB.leaf _ hri
  refine zz ?_
  refine Wc_draw hmix [0, 0, 0, 6, 14, 0, 0, 0, 192, 448, 992, 2016, 0, 0, 12288, 28672, 61440, 131040, 262143, 524287] [0, 1, 2, 3, 4, 5, 6, 7, 8, 9, 10, 11, 12, 13, 14, 15, 16] (some 17) [([18], (some 19)), ([], none)] (by kernel_rfl) (by kernel_rfl) ?_
  refine z_m ?_; refine z_m ?_; refine z_m ?_; refine z_i ?_; refine z_l ?_; refine z_m ?_; refine z_m ?_; refine z_m ?_; refine z_i ?_; refine z_l ?_; refine z_i ?_; refine z_l ?_; refine z_m ?_; refine z_m ?_; refine z_i ?_; refine z_l ?_
  refine Wp_new (nk := .sl _ _) rfl rfl rfl rfl rfl (fun _ _ hs => N_bs hs Und.h Tsz.h Zr.h rfl rfl rfl rfl rfl) ?_
  refine Wp_eff (h1 := (Heap.add h8 _)) [5, 6, 7, 8, 9, 10, 11, 12, 13, 14, 15, 16] (by kernel_rfl) rfl (Stl_nil rfl) rfl rfl rfl (W1_appendF (by' := 8) (k := 1) (n := (updN G ord[i] (byK t kp ord[i] k) ord[i]).length) (l := [i64 (kp[k] : Nat)]) rfl hw (hw1.add _) (hE1.trans hEa) rfl rfl rfl rfl Und.h inferInstance rfl rfl (hLf.ext hEa) ((FreshSl.lit (h0 := h) (n := 1) (sz := 1) (cs := [i64 (kp[k] : Nat)]) Heap.get_add_same rfl hE1.2.1).src (dd := .slice 3) Und.h (by intro k; simp)) rfl rfl (by omega) (by omega) (fun v9 h9 hF9 hE9 hK9 hx9 hv9 => ?_))
  have hob := (hB.ext hEa).oo hri hK9
  obtain ⟨a9, rfl, _, _⟩ := hF9.is
  obtain ⟨op4, hg4⟩ := hF4.got (b := b4) rfl
  have hg4a := hEa.get hg4
  have hg49 := hK9 _ _ (fun e => (List.pairwise_cons.1 hO.up2.ap).1 _ (List.mem_cons_of_mem _ List.mem_cons_self) b4 (.inr ⟨_, hri, e⟩) rfl) hg4a
  have hc49 := (cellAt_get (hg49.trans hg4a.symm)).trans hc4a
  refine z_i ?_
  refine Wp_eff (h1 := h9) [0, 1, 2, 3, 4, 5, 6, 7, 8, 9, 10, 11, 12, 13, 14, 15, 16, 17, 18] (by kernel_rfl) rfl (by refine t_l 4 ?_; refine t_i 3 ?_; refine t_m 2 ?_; refine t_m 1 ?_; refine t_m 0 ?_; exact Stl_nil rfl) rfl rfl rfl (W1_store rfl rfl Tsz.h rfl rfl hob rfl rfl (lay_one (show 0 + ord[i] * 1 < ((List.range t.reels.length).map L').length by simp only [List.length_map, List.length_range]; omega)) (fun h10 hU10 => ?_))
  refine Wp_end (Stl_nil rfl) rfl ?_
  obtain ⟨hO10, hE10⟩ := hO.up2.pushBy hw hw1 (hw1.add _) hE1 hEa hri hF9 hE9 hK9 hx9 hv9 (by
    rw [Nat.zero_add, Nat.mul_one] at hU10
    exact hU10)
  have e : updN (updN G ord[i] (byK t kp ord[i] k)) ord[i] (updN G ord[i] (byK t kp ord[i] k) ord[i] ++ [kp[k]]) = updN G ord[i] (byK t kp ord[i] (k + 1)) := by
    funext x
    by_cases hx : x = ord[i]
    · rw [hx, updN_same, updN_same, updN_same, byK_succ hk', if_pos hfn8]
    · rw [updN_other _ _ hx, updN_other _ _ hx, updN_other _ _ hx]
  rw [e] at hO10
  refine zz ?_
  exact ⟨k + 1, (by show kp.length - (k + 1) < kp.length - k; omega), rfl, hk', hE10, _, hO10.up2, rfl, rfl, rfl, rfl, rfl, rfl, trivial⟩
end Go.Dw
/- W15: the contract of the reference's turns. -/
namespace Go.Dw
open Go Go.Dx Go.Proofs Go.Mt
set_option maxRecDepth 100000
def mRow (p : Mach × Value) : List Value := [str p.1.name, p.2]
def lfI (h0 : Heap) (p : Mach × Value) : It := slI h0 p.2 3 1 (p.1.places.map i64) p.1.places.length
def uOf (t : Task) (X : List (Mach × Value)) : Task := ⟨t.first, t.days, X.map Prod.fst, t.reels⟩
def lowX (X : List (Mach × Value)) (m d : Nat) : List (Mach × Value) := X.modify m fun p => (lowP d p.1, p.2)
def tRow (x : Turn) : List Value := [i64 x.reel, i64 x.machine, i64 x.day]
def TurnSt (t : Task) (X : List (Mach × Value)) (T : List Turn) (r : Nat) (rest : List Nat) (before : Nat -> Nat -> Prop) (dn : Bool) (X' : List (Mach × Value)) (T' : List Turn) : Prop :=
  (dn = false /\ X' = X /\ T' = T /\ ∀ d m, before d m -> okC (uOf t X) r rest (d, m) = false) \/ (dn = true /\ ∃ d m, turnC (uOf t X) r rest = some (d, m) /\ X' = lowX X m d /\ T' = T ++ [⟨r, m, t.first + d⟩])
end Go.Dw
/- W16: the contract of the reference's Plan. -/
namespace Go.Dw
open Go Go.Dx Go.Proofs Go.Mt
set_option maxRecDepth 100000
theorem ints_nats {l : List Int} (h : ∀ x ∈ l, 0 <= x) : ints (natsL l) = l := by
  unfold ints natsL
  rw [List.map_map]
  conv => rhs; rw [<- List.map_id l]
  exact List.map_congr_left fun x hx => Int.toNat_of_nonneg (h x hx)
def PlanV (t : Task) (h : Heap) (v : Value) : Prop := ∃ a al, v = .tuple ⟨[.slice a (planS t).1.length (planS t).1.length, .slice al (planS t).2.1.length (planS t).2.1.length, i64 (planS t).2.2]⟩ /\ TurnsAt h a (planS t).1 /\ LatsAt h al (planS t).2.1
end Go.Dw
/- W13: more places, a further reel, with no program in sight. -/
namespace Go.Dw
open Go Go.Dx Go.Proofs Go.Mt
def namesOk : List (List UInt8) -> List (List UInt8) -> Prop
  | _, [] => True
  | b, s :: l => nameErr s b = 0 /\ namesOk (b ++ [s]) l
theorem goM_iff {t : Task} : ∀ {l : List Mach} {i : Nat} {b : List (List UInt8)}, goM t i b l = none ↔ namesOk b (l.map Mach.name) /\ ∀ m ∈ l, machErr t m = 0
  | [], _, _ => by simp [goM, namesOk]
  | m :: l, i, b => by
    unfold goM
    split
    · rename_i h
      simp only [reduceCtorEq, false_iff]
      exact fun g => h g.1.1
    · rename_i h1
      split
      · rename_i h
        simp only [reduceCtorEq, false_iff]
        exact fun g => h (g.2 m List.mem_cons_self)
      · rename_i h2
        rw [goM_iff]
        constructor
        · rintro ⟨a, c⟩
          exact ⟨⟨Classical.not_not.1 h1, a⟩, fun x hx => by
            rcases List.mem_cons.1 hx with e | g
            · rw [e]; exact Classical.not_not.1 h2
            · exact c x g⟩
        · rintro ⟨a, c⟩
          exact ⟨a.2, fun x hx => c x (List.mem_cons_of_mem _ hx)⟩
theorem goR_iff {t : Task} : ∀ {l : List Reel} {i : Nat} {b : List (List UInt8)}, goR t i b l = none ↔ namesOk b (l.map Reel.name) /\ ∀ m ∈ l, reelErr t m = 0
  | [], _, _ => by simp [goR, namesOk]
  | m :: l, i, b => by
    unfold goR
    split
    · rename_i h
      simp only [reduceCtorEq, false_iff]
      exact fun g => h g.1.1
    · rename_i h1
      split
      · rename_i h
        simp only [reduceCtorEq, false_iff]
        exact fun g => h (g.2 m List.mem_cons_self)
      · rename_i h2
        rw [goR_iff]
        constructor
        · rintro ⟨a, c⟩
          exact ⟨⟨Classical.not_not.1 h1, a⟩, fun x hx => by
            rcases List.mem_cons.1 hx with e | g
            · rw [e]; exact Classical.not_not.1 h2
            · exact c x g⟩
        · rintro ⟨a, c⟩
          exact ⟨a.2, fun x hx => c x (List.mem_cons_of_mem _ hx)⟩
structure NoErr (t : Task) : Prop where
  first : 0 <= t.first /\ t.first <= 80000
  days : 1 <= t.days /\ t.days <= 60
  last : t.first + t.days - 1 <= 80000
  ms : 1 <= t.machines.length /\ t.machines.length <= 4
  rs : t.reels.length <= 24
  mn : namesOk [] (t.machines.map Mach.name)
  me : ∀ m ∈ t.machines, machErr t m = 0
  rn : namesOk [] (t.reels.map Reel.name)
  re : ∀ r ∈ t.reels, reelErr t r = 0
theorem errS_iff {t : Task} : errS t = 0 ↔ NoErr t := by
  unfold errS checkS
  constructor
  · intro h
    split at h
    · cases h
    · rename_i h1
      split at h
      · cases h
      · rename_i h2
        split at h
        · rename_i x hx; exact absurd h (goM_e hx)
        · rename_i hM
          split at h
          · rename_i x hx; exact absurd h (goR_e hx)
          · rename_i hR
            exact ⟨by omega, by omega, by omega, by omega, by omega, (goM_iff.1 hM).1, (goM_iff.1 hM).2, (goR_iff.1 hR).1, (goR_iff.1 hR).2⟩
  · intro h
    have h1 := h.first
    have h2 := h.days
    have h3 := h.last
    have h4 := h.ms
    have h5 := h.rs
    rw [if_neg (by omega), if_neg (by omega), goM_iff.2 ⟨h.mn, h.me⟩, goR_iff.2 ⟨h.rn, h.re⟩]
def MoreM (x y : Mach) : Prop := y.name = x.name /\ y.places.length = x.places.length /\ ∀ d, x.places.getD d 0 <= y.places.getD d 0 /\ (d < x.places.length -> 0 <= y.places.getD d 0 /\ y.places.getD d 0 <= 20)
def MoreR (t : Task) (x y : Reel) : Prop := y.name = x.name /\ y.machines = x.machines /\ y.risk = x.risk /\ y.ready <= x.ready /\ x.due <= y.due /\ t.first <= y.ready /\ y.due <= t.first + t.days - 1
structure MoreT (t u : Task) : Prop where
  first : u.first = t.first
  days : u.days = t.days
  ml : u.machines.length = t.machines.length
  rl : u.reels.length = t.reels.length
  ms : ∀ i (h : i < t.machines.length) (h' : i < u.machines.length), MoreM t.machines[i] u.machines[i]
  rs : ∀ i (h : i < t.reels.length) (h' : i < u.reels.length), MoreR t t.reels[i] u.reels[i]
theorem MoreT.fit {t u : Task} (h : MoreT t u) (hE : NoErr t) {K : List Nat} (hK : K.Nodup) (hf : fitN t K) : fitN u K := by
  have hV := valid_of (errS_iff.2 hE)
  have hl : ∀ r ∈ K, r < t.reels.length := by
    obtain ⟨f, h1, _⟩ := hf
    exact fun r hr => places_lt (h1 r hr)
  rw [fitN_cells hK] at hf ⊢
  refine fitC_mono (fun r hr c hc => ?_) (fun r hr c hc => ?_) hf
  · obtain ⟨_, r2, _, r4, r5, _⟩ := h.rs r (hl r hr) (by rw [h.rl]; exact hl r hr)
    unfold adjM at hc ⊢
    rw [reelAt_nat (hl r hr)] at hc
    rw [reelAt_nat (by rw [h.rl]; exact hl r hr), r2]
    exact ⟨hc.1, by omega, by omega⟩
  · obtain ⟨m, d⟩ := c
    obtain ⟨m', d', rfl, rfl, hm, hd⟩ := adjM_cell hV (hl r hr) hc
    show (capT t (m' : Int) (t.first + (d' : Int))).toNat <= (capT u (m' : Int) (t.first + (d' : Int))).toNat
    have e := capT_M (u := u) (m := m') (d := d')
    rw [h.first] at e
    rw [capT_M, e]
    have h1 := ((h.ms m' hm (by rw [h.ml]; exact hm)).2.2 d').1
    unfold capM
    rw [List.getD_eq_getElem?_getD (l := t.machines), List.getElem?_eq_getElem hm, List.getD_eq_getElem?_getD (l := u.machines), List.getElem?_eq_getElem (by rw [h.ml]; exact hm)]
    simp only [Option.getD_some]
    omega
theorem MoreT.risk {t u : Task} (h : MoreT t u) {r : Nat} (hr : r < t.reels.length) : riskT u r = riskT t r := by
  unfold riskT riskN
  rw [reelAt_nat hr, reelAt_nat (by rw [h.rl]; exact hr), (h.rs r hr (by rw [h.rl]; exact hr)).2.2.1]
def plus (t : Task) (x : Reel) : Task := ⟨t.first, t.days, t.machines, t.reels ++ [x]⟩
section
variable {t : Task} {x : Reel}
theorem plus_len : (plus t x).reels.length = t.reels.length + 1 := by simp [plus]
end
end Go.Dw
