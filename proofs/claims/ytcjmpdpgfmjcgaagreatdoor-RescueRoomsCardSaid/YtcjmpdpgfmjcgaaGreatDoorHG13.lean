/- R1: the reference's grids: what lies where; what a store changes; the places that a grid says are taken. -/
import Derived.Test.YtcjmpdpgfmjcgaaGreatDoorHG12
import Derived.Test.YtcjmpdpgfmjcgaaGreatDoorHG2
namespace Go.Dw
open Go Go.Dx Go.Proofs Go.Mt
abbrev Cl := Nat × Nat
def capN (t : Task) (c : Cl) : Nat := (capT t (c.1 : Nat) (t.first + (c.2 : Nat))).toNat
def pl (t : Task) (c : Cl) (n : Nat) : Pl := ((c.1 : Nat), t.first + (c.2 : Nat), (n : Nat))
def cellP (t : Task) (c : Cl) : List Pl := (List.range (capN t c)).map (pl t c)
def cellsP (t : Task) (Sc : List Cl) : List Pl := Sc.flatMap (cellP t)
def gridT (t : Task) (G : Cl -> List Nat) : Pl -> Option Nat := fun p => if 0 <= p.1 /\ t.first <= p.2.1 /\ 0 <= p.2.2 then (G (p.1.toNat, (p.2.1 - t.first).toNat))[p.2.2.toNat]? else none
def updC {α : Type} (G : Cl -> α) (c : Cl) (x : α) : Cl -> α := fun c' => if c' = c then x else G c'
theorem updC_same {α : Type} (G : Cl -> α) (c : Cl) (x : α) : updC G c x c = x := by simp [updC]
theorem updC_other {α : Type} (G : Cl -> α) {c c' : Cl} (x : α) (h : c' ≠ c) : updC G c x c' = G c' := by simp [updC, h]
theorem gridT_pl (t : Task) (G : Cl -> List Nat) (c : Cl) (n : Nat) : gridT t G (pl t c n) = (G c)[n]? := by
  unfold gridT pl
  rw [if_pos ⟨by simp, by simp; omega, by simp⟩]
  simp only [Int.toNat_natCast]
  rw [show (t.first + (c.2 : Nat) - t.first).toNat = c.2 by omega]
theorem pl_inj {t : Task} {c c' : Cl} {n n' : Nat} (h : pl t c n = pl t c' n') : c = c' /\ n = n' := by
  unfold pl at h
  simp only [Prod.mk.injEq] at h
  obtain ⟨h1, h2, h3⟩ := h
  exact ⟨Prod.ext (by omega) (by omega), by omega⟩
theorem gridT_none {t : Task} {G : Cl -> List Nat} {p : Pl} (h : ∀ c n, p ≠ pl t c n) : gridT t G p = none := by
  unfold gridT
  refine if_neg fun hc => h (p.1.toNat, (p.2.1 - t.first).toNat) p.2.2.toNat ?_
  obtain ⟨a, b, c⟩ := p
  simp only at hc
  unfold pl
  simp only [Prod.mk.injEq]
  exact ⟨by omega, by omega, by omega⟩
theorem gridT_upd {t : Task} {G : Cl -> List Nat} {c : Cl} {l : List Nat} {n r : Nat} (hl : ∀ i, l[i]? = if i = n then some r else (G c)[i]?) : gridT t (updC G c l) = setT (gridT t G) (pl t c n) r := by
  funext p
  by_cases hp : ∃ c' i, p = pl t c' i
  · obtain ⟨c', i, rfl⟩ := hp
    rw [gridT_pl]
    by_cases hc : c' = c
    · subst hc
      rw [updC_same, hl]
      by_cases hi : i = n
      · subst hi; rw [if_pos rfl, setT_same]
      · rw [if_neg hi, setT_other _ _ (fun e => hi (pl_inj e).2), gridT_pl]
    · rw [updC_other _ _ hc, setT_other _ _ (fun e => hc (pl_inj e).1), gridT_pl]
  · have hp' : ∀ c n, p ≠ pl t c n := fun c' i e => hp ⟨c', i, e⟩
    rw [gridT_none hp', setT_other _ _ (hp' c n), gridT_none hp']
theorem gridT_push (t : Task) (G : Cl -> List Nat) (c : Cl) (r : Nat) : gridT t (updC G c (G c ++ [r])) = setT (gridT t G) (pl t c (G c).length) r := by
  refine gridT_upd fun i => ?_
  by_cases hi : i = (G c).length
  · rw [if_pos hi, hi]; simp
  · rw [if_neg hi]
    by_cases h2 : i < (G c).length
    · rw [List.getElem?_append_left h2]
    · rw [List.getElem?_eq_none (by simp; omega), List.getElem?_eq_none (by omega)]
theorem gridT_set (t : Task) (G : Cl -> List Nat) (c : Cl) {n : Nat} (r : Nat) (hn : n < (G c).length) : gridT t (updC G c ((G c).set n r)) = setT (gridT t G) (pl t c n) r := by
  refine gridT_upd fun i => ?_
  by_cases hi : i = n
  · rw [if_pos hi, hi, List.getElem?_set_self hn]
  · rw [if_neg hi, List.getElem?_set_ne (Ne.symm hi)]
theorem mem_cellP {t : Task} {c : Cl} {p : Pl} : p ∈ cellP t c ↔ ∃ n, n < capN t c /\ p = pl t c n := by
  unfold cellP
  simp only [List.mem_map, List.mem_range]
  exact ⟨fun ⟨n, h1, h2⟩ => ⟨n, h1, h2.symm⟩, fun ⟨n, h1, h2⟩ => ⟨n, h1, h2.symm⟩⟩
theorem mem_cellsP {t : Task} {Sc : List Cl} {p : Pl} : p ∈ cellsP t Sc ↔ ∃ c ∈ Sc, ∃ n, n < capN t c /\ p = pl t c n := by
  unfold cellsP
  simp only [List.mem_flatMap, mem_cellP]
theorem cellsP_mono {t : Task} {S S' : List Cl} (h : ∀ c ∈ S, c ∈ S') : ∀ p ∈ cellsP t S, p ∈ cellsP t S' := fun p hp => by
  obtain ⟨c, hc, hn⟩ := mem_cellsP.1 hp
  exact mem_cellsP.2 ⟨c, h c hc, hn⟩
theorem cellsP_nodup (t : Task) {Sc : List Cl} (h : Sc.Nodup) : (cellsP t Sc).Nodup := by
  refine nodup_flat (key := fun p => (p.1.toNat, (p.2.1 - t.first).toNat)) h (fun c _ => map_nodup (fun a _ b _ e => (pl_inj e).2) List.nodup_range) (fun c _ p hp => ?_)
  obtain ⟨n, _, rfl⟩ := mem_cellP.1 hp
  unfold pl
  refine Prod.ext ?_ ?_ <;> simp <;> omega
theorem adj_pl {t : Task} {r : Nat} {c : Cl} {n : Nat} : adjB t (fun _ => false) r (pl t c n) ↔ canB t r (c.1 : Nat) (c.2 : Nat) = true /\ n < capN t c := by
  unfold pl capN canB
  simp only [adjB, mem_placesL, decide_eq_true_eq, and_true]
  constructor
  · rintro ⟨h1, h2, h3, h4, h5⟩
    exact ⟨⟨h1, h2, h3⟩, by omega⟩
  · rintro ⟨⟨h1, h2, h3⟩, h4⟩
    exact ⟨h1, h2, h3, by omega, by omega⟩
theorem adj_cell {t : Task} (hV : Valid t) {r : Nat} (hr : r < t.reels.length) {p : Pl} (h : adjB t (fun _ => false) r p) : ∃ c n, p = pl t c n /\ c.1 < t.machines.length /\ c.2 < t.days.toNat := by
  obtain ⟨a, b, c⟩ := p
  obtain ⟨h1, h2, h3, h4, h5⟩ := mem_placesL.1 h.1
  have hx := hV.rs _ (List.getElem_mem hr)
  rw [reelAt_nat hr] at h1 h2 h3
  have := hx.2.1 _ h1
  refine ⟨(a.toNat, (b - t.first).toNat), c.toNat, ?_, by simp only; omega, by simp only; omega⟩
  unfold pl
  simp only [Prod.mk.injEq]
  exact ⟨by omega, by omega, by omega⟩
def KE (els : TypeId -> Prop) (h h' : Heap) : Prop := ∀ b vs el op, els el -> h.get b = some (.cells vs el op) -> h'.get b = some (.cells vs el op)
theorem KE.refl (els : TypeId -> Prop) (h : Heap) : KE els h h := fun _ _ _ _ _ x => x
theorem KE.trans {els : TypeId -> Prop} {h h1 h2 : Heap} (a : KE els h h1) (b : KE els h1 h2) : KE els h h2 := fun c vs el op hs x => b _ _ _ _ hs (a _ _ _ _ hs x)
theorem KE.of {els : TypeId -> Prop} {h h1 : Heap} (a : Ext h h1) : KE els h h1 := fun _ _ _ _ _ x => a.get x
theorem KE.mono {els els' : TypeId -> Prop} {h h1 : Heap} (a : KE els h h1) (hs : ∀ e, els' e -> els e) : KE els' h h1 := fun c vs el op hs' x => a _ _ _ _ (hs _ hs') x
theorem KE.upd {els : TypeId -> Prop} {h h1 : Heap} {b : Nat} {o : AO} {vs : List Value} {el : TypeId} {op : Bool} (u : Upd h b o h1) (hg : h.get b = some (.cells vs el op)) (hn : ¬ els el) : KE els h h1 := fun c vs' el' op' hs x => u.get (fun e => by rw [e, hg] at x; cases x; exact hn hs) x
theorem cells_el {x : Option AO} {vs vs' : List Value} {el el' : TypeId} {op op' : Bool} (h1 : x = some (.cells vs el op)) (h2 : x = some (.cells vs' el' op')) : el = el' := by
  rw [h1] at h2; injection h2 with h2; injection h2
structure TakeAt (h0 h : Heap) (Mn Dn ob : Nat) (rb : Nat -> Nat) (L : Cl -> Value) (G : Cl -> List Nat) : Prop where
  o : h.get ob = some (.cells ((List.range Mn).map fun m => .slice (some ⟨rb m, 0, none⟩) Dn Dn) 160 false)
  row : ∀ m, m < Mn -> h.get (rb m) = some (.cells ((List.range Dn).map fun d => L (m, d)) 31 false)
  rinj : ∀ m, m < Mn -> ∀ m', m' < Mn -> rb m = rb m' -> m = m'
  leaf : ∀ m d, m < Mn -> d < Dn -> FreshSl h0 h (L (m, d)) 3 1 ((G (m, d)).map fun (r : Nat) => i64 r) (G (m, d)).length
  linj : ∀ m d m' d', m < Mn -> d < Dn -> m' < Mn -> d' < Dn -> ∀ b, blkOf (L (m, d)) = some b -> blkOf (L (m', d')) = some b -> m = m' /\ d = d'
  nr : ∀ m, m < Mn -> h0.nx <= rb m
theorem FreshSl.at3 {h0 h : Heap} {v : Value} {el : TypeId} {sz : Nat} {cs : List Value} {n : Nat} (ho : FreshSl h0 h v el sz cs n) {b : Nat} (hb : blkOf v = some b) : (∃ op, h.get b = some (.cells cs el op)) /\ h0.nx <= b := by
  rcases ho with ⟨rfl, _⟩ | ⟨b', sp, op, rfl, h2, _, h4, _⟩
  · cases hb
  · cases hb; exact ⟨⟨op, h2⟩, h4⟩
theorem TakeAt.ke {h0 h h' : Heap} {Mn Dn ob : Nat} {rb : Nat -> Nat} {L : Cl -> Value} {G : Cl -> List Nat} (a : TakeAt h0 h Mn Dn ob rb L G) (hk : KE (fun el => el = 160 \/ el = 31 \/ el = 3) h h') : TakeAt h0 h' Mn Dn ob rb L G :=
  ⟨hk _ _ _ _ (.inl rfl) a.o, fun m hm => hk _ _ _ _ (.inr (.inl rfl)) (a.row m hm), a.rinj, fun m d hm hd => (a.leaf m d hm hd).keep fun b o hb hg => by
    obtain ⟨⟨op, h1⟩, _⟩ := (a.leaf m d hm hd).at3 hb
    rw [h1] at hg; cases hg
    exact hk _ _ _ _ (.inr (.inr rfl)) h1, a.linj, a.nr⟩
theorem TakeAt.ext {h0 h h' : Heap} {Mn Dn ob : Nat} {rb : Nat -> Nat} {L : Cl -> Value} {G : Cl -> List Nat} (a : TakeAt h0 h Mn Dn ob rb L G) (he : Ext h h') : TakeAt h0 h' Mn Dn ob rb L G := a.ke (KE.of he)
structure LookAt (h0 h : Heap) (Mn Dn sb : Nat) (sr : Nat -> Nat) (Sc : List Cl) : Prop where
  o : h.get sb = some (.cells ((List.range Mn).map fun m => .slice (some ⟨sr m, 0, none⟩) Dn Dn) 162 false)
  row : ∀ m, m < Mn -> h.get (sr m) = some (.cells ((List.range Dn).map fun d => .bool (decide ((m, d) ∈ Sc))) 4 false)
  rinj : ∀ m, m < Mn -> ∀ m', m' < Mn -> sr m = sr m' -> m = m'
  nr : ∀ m, m < Mn -> h0.nx <= sr m
theorem LookAt.ke {h0 h h' : Heap} {Mn Dn sb : Nat} {sr : Nat -> Nat} {Sc : List Cl} (a : LookAt h0 h Mn Dn sb sr Sc) (hk : KE (fun el => el = 162 \/ el = 4) h h') : LookAt h0 h' Mn Dn sb sr Sc :=
  ⟨hk _ _ _ _ (.inl rfl) a.o, fun m hm => hk _ _ _ _ (.inr rfl) (a.row m hm), a.rinj, a.nr⟩
theorem LookAt.ext {h0 h h' : Heap} {Mn Dn sb : Nat} {sr : Nat -> Nat} {Sc : List Cl} (a : LookAt h0 h Mn Dn sb sr Sc) (he : Ext h h') : LookAt h0 h' Mn Dn sb sr Sc := a.ke (KE.of he)
theorem range_set {Dn d : Nat} (f : Nat -> Value) (x : Value) (hd : d < Dn) : ((List.range Dn).map f).set d x = (List.range Dn).map fun e => if e = d then x else f e := by
  apply List.ext_getElem
  · simp
  · intro i h1 h2
    simp only [List.length_set, List.length_map, List.length_range] at h1
    rw [List.getElem_set, List.getElem_map, List.getElem_map, List.getElem_range]
    by_cases h : i = d
    · subst h; simp
    · rw [if_neg (fun e => h e.symm), if_neg h]
theorem LookAt.mark {h0 h h' : Heap} {Mn Dn sb m d : Nat} {sr : Nat -> Nat} {Sc : List Cl} (a : LookAt h0 h Mn Dn sb sr Sc) (hm : m < Mn) (hd : d < Dn) (hU : Upd h (sr m) (.cells (((List.range Dn).map fun e => .bool (decide ((m, e) ∈ Sc))).set d (.bool true)) 4 false) h') : LookAt h0 h' Mn Dn sb sr (Sc ++ [(m, d)]) := by
  refine ⟨hU.get (fun e => ?_) a.o, fun m' hm' => ?_, a.rinj, a.nr⟩
  · exact absurd (cells_el (a.row m hm) (e ▸ a.o)) (by decide)
  · by_cases hmm : m' = m
    · subst hmm
      rw [hU.at', range_set _ _ hd]
      congr 3
      funext e
      by_cases he : e = d
      · subst he; rw [if_pos rfl]; simp
      · rw [if_neg he]
        congr 1
        simp only [List.mem_append, List.mem_singleton, Prod.mk.injEq, he, and_false, or_false]
    · rw [hU.other _ (fun e => hmm (a.rinj m' hm' m hm e)), a.row m' hm']
      congr 3
      funext e
      congr 1
      simp only [List.mem_append, List.mem_singleton, Prod.mk.injEq, hmm, false_and, or_false]
theorem TakeAt.put {h0 h h' : Heap} {Mn Dn ob m d i r b : Nat} {rb : Nat -> Nat} {L : Cl -> Value} {G : Cl -> List Nat} {op : Bool} (a : TakeAt h0 h Mn Dn ob rb L G) (hm : m < Mn) (hd : d < Dn) (hi : i < (G (m, d)).length) (hb : blkOf (L (m, d)) = some b) (hU : Upd h b (.cells (((G (m, d)).map fun (r : Nat) => i64 r).set i (i64 r)) 3 op) h') : TakeAt h0 h' Mn Dn ob rb L (updC G (m, d) ((G (m, d)).set i r)) := by
  obtain ⟨⟨op0, hg⟩, hn⟩ := (a.leaf m d hm hd).at3 hb
  refine ⟨hU.get (fun e => ?_) a.o, fun m' hm' => hU.get (fun e => ?_) (a.row m' hm'), a.rinj, fun m' d' hm' hd' => ?_, a.linj, a.nr⟩
  · exact absurd (cells_el hg (e ▸ a.o)) (by decide)
  · exact absurd (cells_el hg (e ▸ a.row m' hm')) (by decide)
  · by_cases hc : (m', d') = (m, d)
    · cases hc
      rw [updC_same, List.length_set, List.map_set]
      rcases a.leaf m d hm hd with ⟨e, _⟩ | ⟨b', sp, op', e, h2, h3, h4, h5⟩
      · rw [e] at hb; cases hb
      · rw [e] at hb; cases hb
        exact .inr ⟨b', sp, op, e, hU.at', by simp, h4, h5⟩
    · rw [updC_other _ _ hc]
      refine (a.leaf m' d' hm' hd').keep fun b' o hb' hg' => hU.get (fun e => hc ?_) hg'
      obtain ⟨e1, e2⟩ := a.linj m' d' m d hm' hd' hm hd b' hb' (e ▸ hb)
      rw [e1, e2]
theorem TakeAt.push {h0 h h1 h' : Heap} {Mn Dn ob m d r : Nat} {rb : Nat -> Nat} {L : Cl -> Value} {G : Cl -> List Nat} {v : Value} (a : TakeAt h0 h Mn Dn ob rb L G) (hw : WF h) (hm : m < Mn) (hd : d < Dn) (hF : FreshSl h0 h1 v 3 1 (((G (m, d)).map fun (r : Nat) => i64 r) ++ [i64 (r : Nat)]) ((G (m, d)).length + 1)) (hK : Keep h h1 (blkOf (L (m, d)))) (hv : blkOf v = blkOf (L (m, d)) \/ ∃ b, blkOf v = some b /\ h.nx <= b)
    (hU : Upd h1 (rb m) (.cells (((List.range Dn).map fun e => L (m, e)).set d v) 31 false) h') : TakeAt h0 h' Mn Dn ob rb (updC L (m, d) v) (updC G (m, d) (G (m, d) ++ [r])) := by
  have hro : ∀ m', m' < Mn -> h1.get (rb m') = some (.cells ((List.range Dn).map fun d => L (m', d)) 31 false) := fun m' hm' => hK _ _ (fun e => by
    obtain ⟨⟨op0, hg⟩, _⟩ := (a.leaf m d hm hd).at3 e
    exact absurd (cells_el hg (a.row m' hm')) (by decide)) (a.row m' hm')
  have hoo : h1.get ob = _ := hK _ _ (fun e => by
    obtain ⟨⟨op0, hg⟩, _⟩ := (a.leaf m d hm hd).at3 e
    exact absurd (cells_el hg a.o) (by decide)) a.o
  have hlt : ∀ m' d' b, m' < Mn -> d' < Dn -> blkOf (L (m', d')) = some b -> b < h.nx := fun m' d' b hm' hd' hb => by
    obtain ⟨⟨op0, hg⟩, _⟩ := (a.leaf m' d' hm' hd').at3 hb
    exact hw _ _ hg
  have hleaf : ∀ m' d', m' < Mn -> d' < Dn -> FreshSl h0 h1 (updC L (m, d) v (m', d')) 3 1 ((updC G (m, d) (G (m, d) ++ [r]) (m', d')).map fun (r : Nat) => i64 r) (updC G (m, d) (G (m, d) ++ [r]) (m', d')).length := fun m' d' hm' hd' => by
    by_cases hc : (m', d') = (m, d)
    · rw [hc, updC_same, updC_same, List.map_append, List.length_append]
      exact hF
    · rw [updC_other _ _ hc, updC_other _ _ hc]
      refine (a.leaf m' d' hm' hd').keep fun b o hb hg => hK _ _ (fun e => hc ?_) hg
      obtain ⟨e1, e2⟩ := a.linj m' d' m d hm' hd' hm hd b hb e
      rw [e1, e2]
  refine ⟨hU.get (fun e => ?_) hoo, fun m' hm' => ?_, a.rinj, fun m' d' hm' hd' => (hleaf m' d' hm' hd').keep fun b o hb hg => hU.get (fun e => ?_) hg, fun m1 d1 m2 d2 hm1 hd1 hm2 hd2 b hb1 hb2 => ?_, a.nr⟩
  · exact absurd (cells_el (hro m hm) (e ▸ hoo)) (by decide)
  · by_cases hmm : m' = m
    · subst hmm
      rw [hU.at', range_set _ _ hd]
      congr 3
      funext e
      by_cases he : e = d
      · subst he; rw [if_pos rfl, updC_same]
      · rw [if_neg he, updC_other _ _ (fun x => he (by cases x; rfl))]
    · rw [hU.other _ (fun e => hmm (a.rinj m' hm' m hm e)), hro m' hm']
      congr 3
      funext e
      rw [updC_other _ _ (fun x => hmm (by cases x; rfl))]
  · obtain ⟨⟨op0, h2⟩, _⟩ := (hleaf m' d' hm' hd').at3 hb
    exact absurd (cells_el (hro m hm) (e ▸ h2)) (by decide)
  · by_cases h1 : (m1, d1) = (m, d)
    · by_cases h2 : (m2, d2) = (m, d)
      · cases h1; cases h2; exact ⟨rfl, rfl⟩
      · rw [h1, updC_same] at hb1
        rw [updC_other _ _ h2] at hb2
        rcases hv with e | ⟨b', e, hb'⟩
        · rw [e] at hb1
          obtain ⟨e1, e2⟩ := a.linj m2 d2 m d hm2 hd2 hm hd b hb2 hb1
          exact (h2 (by rw [e1, e2])).elim
        · rw [e] at hb1; cases hb1
          have := hlt m2 d2 _ hm2 hd2 hb2; omega
    · rw [updC_other _ _ h1] at hb1
      by_cases h2 : (m2, d2) = (m, d)
      · rw [h2, updC_same] at hb2
        rcases hv with e | ⟨b', e, hb'⟩
        · rw [e] at hb2
          obtain ⟨e1, e2⟩ := a.linj m1 d1 m d hm1 hd1 hm hd b hb1 hb2
          exact (h1 (by rw [e1, e2])).elim
        · rw [e] at hb2; cases hb2
          have := hlt m1 d1 _ hm1 hd1 hb1; omega
      · rw [updC_other _ _ h2] at hb2
        exact a.linj m1 d1 m2 d2 hm1 hd1 hm2 hd2 b hb1 hb2
end Go.Dw
/- R2: the contract of the reference's search for a place (find). -/
namespace Go.Dw
open Go Go.Dx Go.Proofs Go.Mt
set_option maxRecDepth 100000
structure FK where
  h0 : Heap
  t : Task
  am : Option Addr
  ar : Option Addr
  cm : Nat
  cr : Nat
  ob : Nat
  rb : Nat -> Nat
  sb : Nat
  sr : Nat -> Nat
def FK.tc (k : FK) : List Value := [i64 k.t.first, i64 k.t.days, .slice k.am k.t.machines.length k.cm, .slice k.ar k.t.reels.length k.cr]
abbrev FK.Take (k : FK) (h : Heap) (L : Cl -> Value) (G : Cl -> List Nat) : Prop := TakeAt k.h0 h k.t.machines.length k.t.days.toNat k.ob k.rb L G
abbrev FK.Look (k : FK) (h : Heap) (Sc : List Cl) : Prop := LookAt k.h0 h k.t.machines.length k.t.days.toNat k.sb k.sr Sc
structure FK.OK (k : FK) : Prop where
  hw : WF k.h0
  hM : RowsAt 2 MachAt k.h0 k.am k.t.machines
  hR : RowsAt 5 ReelAt k.h0 k.ar k.t.reels
  hf : k.t.Fit
  hV : Valid k.t
def GOK (t : Task) (G : Cl -> List Nat) : Prop := ∀ c, (G c).length <= capN t c /\ ∀ s ∈ G c, s < t.reels.length
abbrev adjF (t : Task) : Nat -> Pl -> Prop := adjB t fun _ => false
abbrev KF (h h' : Heap) : Prop := KE (fun el => el ≠ 31 /\ el ≠ 3 /\ el ≠ 4) h h'
def FindPost (k : FK) (Sc : List Cl) (G : Cl -> List Nat) (r : Nat) (h : Heap) (v : Value) (h' : Heap) : Prop :=
  ∃ L' G' Sc', Ext k.h0 h' /\ KF h h' /\ k.Take h' L' G' /\ GOK k.t G' /\ k.Look h' Sc' /\ Sc'.Nodup /\ (∀ c ∈ Sc, c ∈ Sc') ∧
    ((v = .bool true /\ Won (adjF k.t) (cellsP k.t Sc) (gridT k.t G) (gridT k.t G') r) \/ (v = .bool false /\ G' = G /\ Lost (adjF k.t) (cellsP k.t Sc) (cellsP k.t Sc') (gridT k.t G) r))
def FI (k : FK) (Sc : List Cl) (G : Cl -> List Nat) (r : Nat) (h h' : Heap) (m d : Nat) : Prop :=
  Ext k.h0 h' /\ KF h h' /\ ∃ L' Sc', k.Take h' L' G /\ k.Look h' Sc' /\ Sc'.Nodup /\ (∀ c ∈ Sc, c ∈ Sc') /\ Vain (adjF k.t) (cellsP k.t Sc) (cellsP k.t Sc') (gridT k.t G) ∧
    ∀ m' d', (m' < m \/ (m' = m /\ d' < d)) -> m' < k.t.machines.length -> d' < k.t.days.toNat -> canB k.t r (m' : Nat) (d' : Nat) = true -> (m', d') ∈ Sc'
def allC (t : Task) : List Cl := (List.range t.machines.length).flatMap fun m => (List.range t.days.toNat).map fun d => (m, d)
def unseenC (t : Task) (Sc : List Cl) : Nat := ((allC t).filter fun c => decide (c ∉ Sc)).length
theorem unseenC_lt {t : Task} {m d : Nat} {S S1 : List Cl} (hm : m < t.machines.length) (hd : d < t.days.toNat) (hn : (m, d) ∉ S1) (hs : ∀ q ∈ S, q ∈ S1) : unseenC t (S1 ++ [(m, d)]) < unseenC t S := by
  unfold unseenC
  refine Go.Mt.filter_lt (fun q _ hq => ?_) ⟨(m, d), List.mem_flatMap.2 ⟨m, List.mem_range.2 hm, List.mem_map.2 ⟨d, List.mem_range.2 hd, rfl⟩⟩, ?_, ?_⟩
  · have := of_decide_eq_true hq
    exact decide_eq_true fun h => this (List.mem_append_left _ (hs q h))
  · exact decide_eq_true fun h => hn (hs _ h)
  · exact decide_eq_false fun h => h (List.mem_append_right _ List.mem_cons_self)
theorem unseenC_le {t : Task} {S S1 : List Cl} (hs : ∀ q ∈ S, q ∈ S1) : unseenC t S1 <= unseenC t S := by
  unfold unseenC
  generalize allC t = l
  induction l with
  | nil => simp
  | cons x l ih =>
    rw [List.filter_cons, List.filter_cons]
    by_cases h1 : x ∈ S1
    · by_cases h2 : x ∈ S
      · simp only [h1, h2, not_true, decide_false, Bool.false_eq_true, if_false]; exact ih
      · simp only [h1, h2, not_true, not_false_eq_true, decide_false, decide_true, Bool.false_eq_true, if_false, if_true, List.length_cons]; omega
    · have h2 : x ∉ S := fun h => h1 (hs x h)
      simp only [h1, h2, not_false_eq_true, decide_true, if_true, List.length_cons]; omega
theorem nth_range {f : Nat -> Value} {n i : Nat} (hi : i < n) : nth ((List.range n).map f) (0 + i * 1) = some (f i) := by
  rw [nth_eq, show 0 + i * 1 = i by omega]; simp [hi]
theorem LookAt.oc {h0 h : Heap} {Mn Dn sb m : Nat} {sr : Nat -> Nat} {Sc : List Cl} (a : LookAt h0 h Mn Dn sb sr Sc) (hm : m < Mn) : cellAt h sb (0 + m * 1) = some (.slice (some ⟨sr m, 0, none⟩) Dn Dn) := cellAt_cells a.o (nth_range hm)
theorem LookAt.rc {h0 h : Heap} {Mn Dn sb m d : Nat} {sr : Nat -> Nat} {Sc : List Cl} (a : LookAt h0 h Mn Dn sb sr Sc) (hm : m < Mn) (hd : d < Dn) : cellAt h (sr m) (0 + d * 1) = some (.bool (decide ((m, d) ∈ Sc))) := cellAt_cells (a.row m hm) (nth_range hd)
theorem TakeAt.oc {h0 h : Heap} {Mn Dn ob m : Nat} {rb : Nat -> Nat} {L : Cl -> Value} {G : Cl -> List Nat} (a : TakeAt h0 h Mn Dn ob rb L G) (hm : m < Mn) : cellAt h ob (0 + m * 1) = some (.slice (some ⟨rb m, 0, none⟩) Dn Dn) := cellAt_cells a.o (nth_range hm)
theorem TakeAt.rc {h0 h : Heap} {Mn Dn ob m d : Nat} {rb : Nat -> Nat} {L : Cl -> Value} {G : Cl -> List Nat} (a : TakeAt h0 h Mn Dn ob rb L G) (hm : m < Mn) (hd : d < Dn) : cellAt h (rb m) (0 + d * 1) = some (L (m, d)) := cellAt_cells (a.row m hm) (nth_range hd)
set_option maxHeartbeats 8000000 in
theorem find_sv (k : FK) (hk : k.OK) : ∀ (n : Nat) (h : Heap) (Sc : List Cl) (L : Cl -> Value) (G : Cl -> List Nat) (r : Nat), unseenC k.t Sc = n -> Ext k.h0 h -> k.Take h L G -> k.Look h Sc -> Sc.Nodup -> GOK k.t G -> r < k.t.reels.length →
    Sv Tryz.prog 98 [.agg ⟨k.tc⟩, .slice (some ⟨k.ob, 0, none⟩) k.t.machines.length k.t.machines.length, i64 (r : Nat), .slice (some ⟨k.sb, 0, none⟩) k.t.machines.length k.t.machines.length] h (RetP fun v h' => FindPost k Sc G r h v h') := by
  obtain ⟨hw0, hM, hR, hf, hV⟩ := hk
  have ht0 : TaskAt k.h0 [i64 k.t.first, i64 k.t.days, .slice k.am k.t.machines.length k.cm, .slice k.ar k.t.reels.length k.cr] k.t := ⟨k.am, k.cm, k.ar, k.cr, rfl, hM, hR⟩
  intro n
  induction n using Nat.strongRecOn with
  | ind n ih =>
  intro h Sc L G r hun hE hT hS hSd hG hr
  unfold FK.tc
  refine Sv_enter Tryz.func98 rfl (by rw [Tryz.ntmps98]; rfl) ?_; show Wc Tryz.prog ⟨98, 116, none⟩ _ _ _ _ _
  refine zz ?_
  refine Wo_box rfl rfl rfl fun h1 hE1 hW1 hg1 hx1 => ?_
  refine zz ?_
  generalize h.nx = b1 at *
  have hI1 : FI k Sc G r h h1 0 0 := ⟨hE.trans hE1, KE.of hE1, L, Sc, hT.ext hE1, hS.ext hE1, hSd, (fun _ h => h), vain_refl, fun m' d' hx => by omega⟩
  refine Wc_loop (fun (m : Nat) mm ds h' => ds = [] /\ m <= k.t.machines.length /\ FI k Sc G r h h' m 0 /\ h'.get b1 = some (.cells [i64 k.t.first, i64 k.t.days, .slice k.am k.t.machines.length k.cm, .slice k.ar k.t.reels.length k.cr] 25 false) ∧
      AllK mm [(1, .slice (some ⟨k.ob, 0, none⟩) k.t.machines.length k.t.machines.length), (2, i64 (r : Nat)), (3, .slice (some ⟨k.sb, 0, none⟩) k.t.machines.length k.t.machines.length), (4, ptr b1), (9, i64 (m : Nat))]) (fun m => k.t.machines.length - m) 0 ?_ ?_
  · exact ⟨rfl, Nat.zero_le _, hI1, hg1, rfl, rfl, rfl, rfl, rfl, trivial⟩
  clear hI1 hg1 hE1 hW1 hx1 h1
  rintro m mm ds h1 ⟨rfl, hm, hI1, hg1, hall⟩
  refine Wc.le ?_ (Le.kn hall)
  have hms := hf.ms
  refine zz ?_
  refine Wo_dec rfl rfl rfl rfl (A_lss rfl rfl) (fun hmp => ?_) (fun hmp => ?_)
  rotate_left
  · have hm2 : m = k.t.machines.length := by omega
    subst hm2
    refine zz ?_
    obtain ⟨hEx, hK, L', Sc', hT', hS', hSd', hsub, hvain, hcov⟩ := hI1
    refine Wc_ret (Lv_ret rfl ⟨L', G, Sc', hEx, hK, hT', hG, hS', hSd', hsub, .inr ⟨rfl, rfl, fun p hp => ?_, hvain⟩⟩)
    obtain ⟨c, n, rfl, hc1, hc2⟩ := adj_cell hV hr hp
    obtain ⟨ha1, ha2⟩ := adj_pl.1 hp
    exact mem_cellsP.2 ⟨c, hcov c.1 c.2 (.inl hc1) hc1 hc2 ha1, n, ha2, rfl⟩
  have hm' : m < k.t.machines.length := by omega
  refine zz ?_
  refine Wc_loop (fun (d : Nat) mm ds h' => ds = [] /\ d <= k.t.days.toNat /\ FI k Sc G r h h' m d /\ h'.get b1 = some (.cells [i64 k.t.first, i64 k.t.days, .slice k.am k.t.machines.length k.cm, .slice k.ar k.t.reels.length k.cr] 25 false) ∧
      AllK mm [(1, .slice (some ⟨k.ob, 0, none⟩) k.t.machines.length k.t.machines.length), (2, i64 (r : Nat)), (3, .slice (some ⟨k.sb, 0, none⟩) k.t.machines.length k.t.machines.length), (4, ptr b1), (9, i64 (m : Nat)), (10, i64 (d : Nat))]) (fun d => k.t.days.toNat - d) 0 ?_ ?_
  · exact ⟨rfl, Nat.zero_le _, hI1, hg1, rfl, rfl, rfl, rfl, rfl, rfl, trivial⟩
  clear hI1 hg1 hall
  clear h1
  have hD := hV.d1
  rintro d mm ds h1 ⟨rfl, hd, hI1, hg1, hall⟩
  refine Wc.le ?_ (Le.kn hall)
  refine zz ?_
  refine Wo_dec rfl rfl rfl rfl (A_lss rfl rfl) (fun hdp => ?_) (fun hdp => ?_)
  rotate_left
  · have hd2 : d = k.t.days.toNat := by omega
    refine zz ?_
    refine ⟨m + 1, ?_, rfl, hm', ?_, hg1, rfl, rfl, rfl, rfl, rfl, trivial⟩
    · show k.t.machines.length - (m + 1) < k.t.machines.length - m; omega
    · obtain ⟨hEx, hK, L', Sc', hT', hS', hSd', hsub, hvain, hcov⟩ := hI1
      exact ⟨hEx, hK, L', Sc', hT', hS', hSd', hsub, hvain, fun m' d' hx hm1 hd1 => hcov m' d' (by omega) hm1 hd1⟩
  have hd' : d < k.t.days.toNat := by omega
  obtain ⟨hEx, hK, L', Sc', hT', hS', hSd', hsub, hvain, hcov⟩ := hI1
  have hfd : I64 (k.t.first + ((d : Nat) : Int)) := by
    have := hV.f0
    have := hV.f1
    constructor <;> omega
  refine zz ?_
  refine Wo_callE rfl rfl rfl rfl rfl Bod.h rfl rfl (can_sv (k := r) (m := (m : Nat)) (d := (d : Nat)) (ht0.ext hEx) hf hr hfd) fun h2 hE2 => ?_
  replace hEx := hEx.trans hE2
  replace hK := hK.trans (KE.of hE2)
  replace hT' := hT'.ext hE2
  replace hS' := hS'.ext hE2
  replace hg1 := hE2.get hg1
  have hnext : ∀ {h3 : Heap} {L3 : Cl -> Value} {S3 : List Cl}, Ext k.h0 h3 -> KF h2 h3 -> k.Take h3 L3 G -> k.Look h3 S3 -> S3.Nodup -> (∀ c ∈ Sc', c ∈ S3) -> Vain (adjF k.t) (cellsP k.t Sc) (cellsP k.t S3) (gridT k.t G) -> (canB k.t r (m : Nat) (d : Nat) = true -> (m, d) ∈ S3) -> FI k Sc G r h h3 m (d + 1) := fun {h3 L3 S3} hE3 hK3 hT3 hS3 hd3 hs3 hv3 hc3 =>
    ⟨hE3, hK.trans hK3, L3, S3, hT3, hS3, hd3, fun c hc => hs3 c (hsub c hc), hv3, fun m' d' hx hm1 hd1 hc => by
      by_cases e : m' = m /\ d' = d
      · obtain ⟨rfl, rfl⟩ := e; exact hc3 hc
      · exact hs3 _ (hcov m' d' (by omega) hm1 hd1 hc)⟩
  clear hE2
  cases hcan : canB k.t r (m : Nat) (d : Nat)
  · refine zz ?_
    refine ⟨d + 1, ?_, rfl, hd', hnext hEx (KE.refl _ _) hT' hS' hSd' (fun _ h => h) hvain (fun hc => by rw [hcan] at hc; cases hc), hg1, rfl, rfl, rfl, rfl, rfl, rfl, trivial⟩
    show k.t.days.toNat - (d + 1) < k.t.days.toNat - d; omega
  have hsoc := hS'.oc hm'
  have hsrc := hS'.rc hm' hd'
  refine zz ?_
  refine Wo_do rfl rfl rfl rfl (A_ix Und.h Tsz.h rfl rfl) ?_
  refine zz ?_
  refine Wo_do rfl rfl rfl rfl (A_ix Und.h Tsz.h rfl rfl) ?_
  by_cases hin : (m, d) ∈ Sc'
  · rw [decide_eq_true hin] at hsrc
    refine zz ?_
    refine ⟨d + 1, ?_, rfl, hd', hnext hEx (KE.refl _ _) hT' hS' hSd' (fun _ h => h) hvain (fun _ => hin), hg1, rfl, rfl, rfl, rfl, rfl, rfl, trivial⟩
    show k.t.days.toNat - (d + 1) < k.t.days.toNat - d; omega
  rw [decide_eq_false hin] at hsrc
  refine zz ?_
  refine Wo_do rfl rfl rfl rfl (A_ix Und.h Tsz.h rfl rfl) ?_
  refine zz ?_
  refine Wo_do rfl rfl rfl rfl (A_ix Und.h Tsz.h rfl rfl) ?_
  refine Wo_store rfl Tsz.h rfl rfl (hS'.row m hm') rfl rfl (lay_one (by simp; omega)) fun h3 hU3 => ?_
  rw [show 0 + d * 1 = d by omega] at hU3
  have hEx3 : Ext k.h0 h3 := hU3.ext hEx hw0 (hS'.nr m hm')
  have hK3 : KF h2 h3 := KE.upd hU3 (hS'.row m hm') (by decide)
  have hT3 := hT'.ke (KE.upd hU3 (hS'.row m hm') (by decide))
  have hS3 := hS'.mark hm' hd' hU3
  replace hg1 := hK3 _ _ _ _ (by decide) hg1
  clear hU3 hsoc hsrc hS' hT' hEx
  have hnd3 : (Sc' ++ [(m, d)]).Nodup := by
    rw [List.nodup_append]
    refine ⟨hSd', by simp, fun a ha b hb => ?_⟩
    rw [List.mem_singleton.1 hb]
    exact fun e => hin (by rw [<- e]; exact ha)
  have hsub3 : ∀ c ∈ Sc', c ∈ Sc' ++ [(m, d)] := fun c hc => List.mem_append_left _ hc
  have hlt3 : unseenC k.t (Sc' ++ [(m, d)]) < n := by rw [<- hun]; exact unseenC_lt hm' hd' hin hsub
  obtain ⟨hpl, hpe, hp0, hp20⟩ := placeAt hV hm' hd'
  have hcapN : ((capN k.t (m, d) : Nat) : Int) = k.t.machines[m].places[d] := by
    unfold capN capT
    simp only [Int.toNat_natCast]
    rw [show (k.t.first + (d : Nat) - k.t.first).toNat = d by omega, hpe]
    simp only [List.getD_eq_getElem?_getD, List.getElem?_eq_getElem hpl, Option.getD_some] at hp0 ⊢
    omega
  have hcap20 : capN k.t (m, d) <= 20 := by
    simp only [List.getD_eq_getElem?_getD, List.getElem?_eq_getElem hpl, Option.getD_some] at hp20
    omega
  obtain ⟨bM, oM, oaM, aP, cP, eam, hcm, hIP⟩ := machRow hM hm'
  obtain ⟨bP, oP, oaP, rfl, hcp⟩ := hIP d hpl
  have hg1x := hg1
  rw [eam] at hg1x
  have hcm3 := hEx3.cell hcm
  have hcp3 := hEx3.cell hcp
  have hto := hT3.oc hm'
  have htr := hT3.rc hm' hd'
  have hleaf := hT3.leaf m d hm' hd'
  obtain ⟨aL, eL, -, -⟩ := hleaf.srcAt
  rw [eL] at htr
  refine zz ?_
  by_cases c1 : ((G (m, d)).length : Int) < k.t.machines[m].places[d]
  · refine Wc_draw hmix [0, 0, 3, 7, 0, 31, 63, 127, 0, 256, 0, 1792, 3840, 7936, 0, 32512, 65280, 131071] [0, 1, 2, 3, 4, 5, 6, 7, 8, 9, 10, 11, 12, 13, 14, 15, 16, 17] none [] (by kernel_rfl) (by kernel_rfl) ?_
    refine z_m ?_; refine z_m ?_; refine z_i ?_; refine z_l ?_; refine z_m ?_; refine z_i ?_; refine z_l ?_; refine z_c ?_; refine z_f ?_; refine z_l ?_; refine z_m ?_; refine z_i ?_; refine z_f ?_; refine z_l ?_; refine z_m ?_; refine z_i ?_; refine z_l ?_; refine Wp_pure rfl rfl rfl rfl rfl (fun _ => A_tt c1 (A_lss rfl rfl)) ?_
    refine Wp_end (Stl_nil rfl) nb' ?_
    refine Wc_wf fun hw3 => ?_
    have hlc := (hG (m, d)).1
    have hleaf1 := hleaf
    rw [eL] at hleaf1
    have hE4 := Ext.add hw3 (.cells [i64 (r : Nat)] 3 false)
    have hT4 := hT3.ext hE4
    have hS4 := hS3.ext hE4
    have hb1 : (2 * ((G (m, d)).length + 1) + 192) * 8 <= 281474976710656 := by omega
    have hb2 : (G (m, d)).length + 1 < 281474976710656 := by omega
    have hsz : asrc Tryz.prog 3 1 31 (.slice (some ⟨h3.nx, 0, none⟩) 1 1) (h3.add (.cells [i64 (r : Nat)] 3 false)) = some (1, [i64 (r : Nat)]) := (FreshSl.lit (h0 := k.h0) (n := 1) (sz := 1) (cs := [i64 (r : Nat)]) Heap.get_add_same rfl hEx3.2.1).src (dd := .slice 3) Und.h (by intro k; simp)
    refine zz ?_
    refine Wc_draw hmix [0, 0, 3, 7, 0, 0, 0, 96, 224, 0, 992, 2016, 0, 4096, 16352, 32767, 65535] [0, 1, 2, 3, 4, 5, 6, 7, 8, 9, 10, 11, 12, 13] (some 14) [([15], (some 16)), ([], none)] (by kernel_rfl) (by kernel_rfl) ?_
    refine z_m ?_; refine z_m ?_; refine z_i ?_; refine z_l ?_; refine z_m ?_; refine z_m ?_; refine z_m ?_; refine z_i ?_; refine z_l ?_; refine z_m ?_; refine z_i ?_; refine z_l ?_; refine z_m ?_
    refine Wp_new (nk := .sl _ _) rfl rfl rfl rfl rfl (fun _ _ hs => N_bs hs Und.h Tsz.h Zr.h rfl rfl rfl rfl rfl) ?_
    refine Wp_eff (h1 := (Heap.add h3 _)) [5, 6, 7, 8, 9, 10, 11, 12, 13] (by kernel_rfl) rfl (Stl_nil rfl) rfl rfl rfl (W1_appendF (by' := 8) (k := 1) (n := (G (m, d)).length) (l := [i64 (r : Nat)]) rfl hw0 (hw3.add _) (hEx3.trans hE4) rfl rfl rfl rfl Und.h inferInstance rfl rfl (hleaf1.ext hE4) hsz rfl rfl hb1 hb2 (fun v5 h5 hF5 hE5 hK5 hx5 hv5 => ?_))
    have hbl : ∀ {b vs el op}, (h3.add (.cells [i64 (r : Nat)] 3 false)).get b = some (.cells vs el op) -> el ≠ 3 -> h5.get b = some (.cells vs el op) := fun {b vs el op} hg hne => hK5 _ _ (fun e => by
      rw [<- eL] at e
      obtain ⟨⟨op0, h1⟩, _⟩ := (hT4.leaf m d hm' hd').at3 e
      exact hne (cells_el hg h1)) hg
    have hro5 := hbl (hT4.row m hm') (by decide)
    have hto5 : cellAt h5 k.ob (0 + m * 1) = some (.slice (some ⟨k.rb m, 0, none⟩) k.t.days.toNat k.t.days.toNat) := cellAt_cells (hbl hT4.o (by decide)) (nth_range hm')
    have hF5' := hF5
    obtain ⟨a5, e5, _, _⟩ := hF5'.is
    subst e5
    refine z_i ?_
    refine Wp_eff (h1 := h5) [0, 1, 2, 3, 4, 5, 6, 7, 8, 9, 10, 11, 12, 13, 14, 15] (by kernel_rfl) rfl (by refine t_m 4 ?_; refine t_l 3 ?_; refine t_i 2 ?_; refine t_m 1 ?_; refine t_m 0 ?_; exact Stl_nil rfl) rfl rfl rfl (W1_store rfl rfl Tsz.h rfl rfl hro5 rfl rfl (lay_one (by simp; omega)) (fun h6 hU6 => ?_))
    refine Wp_end (Stl_nil rfl) rfl ?_
    refine zz ?_
    rw [show 0 + d * 1 = d by omega] at hU6
    have hT6 := hT4.push (hw3.add _) hm' hd' hF5 (by rw [eL]; exact hK5) (by rw [eL]; exact hv5) hU6
    have hK5' : KE (fun el => el ≠ 3) h3 h5 := fun b vs el op hs hg => hbl (hE4.get hg) hs
    have hlcap : (G (m, d)).length < capN k.t (m, d) := by omega
    refine Wc_ret (Lv_ret rfl ⟨_, _, _, hU6.ext hE5 hw0 (hT3.nr m hm'), hK.trans (hK3.trans ((hK5'.mono fun e he => he.2.1).trans (KE.upd hU6 hro5 (by decide)))), hT6, fun c => ?_, (hS3.ke (hK5'.mono fun e he => by rcases he with rfl | rfl <;> decide)).ke (KE.upd hU6 hro5 (by decide)), hnd3, fun c hc => hsub3 c (hsub c hc), .inl ⟨rfl, ?_⟩⟩)
    · by_cases e : c = (m, d)
      · subst e
        rw [updC_same]
        refine ⟨by simp; omega, fun x hx => ?_⟩
        rcases List.mem_append.1 hx with g | g
        · exact (hG _).2 x g
        · rw [List.mem_singleton.1 g]; exact hr
      · rw [updC_other _ _ e]; exact hG c
    · rw [gridT_push]
      refine won_free (adj_pl.2 ⟨hcan, hlcap⟩) (fun hm1 => ?_) (by rw [gridT_pl]; exact List.getElem?_eq_none (Nat.le_refl _))
      obtain ⟨c, hc, n', _, e⟩ := mem_cellsP.1 hm1
      exact hin (hsub _ (by rw [(pl_inj e).1]; exact hc))
  refine Wc_draw hmix [0, 0, 3, 7, 0, 31, 63, 127, 0, 256, 0, 1792, 3840, 7936, 0, 32512, 65280, 131071] [0, 1, 2, 3, 4, 5, 6, 7, 8, 9, 10, 11, 12, 13, 14, 15, 16, 17] none [] (by kernel_rfl) (by kernel_rfl) ?_
  refine z_m ?_; refine z_m ?_; refine z_i ?_; refine z_l ?_; refine z_m ?_; refine z_i ?_; refine z_l ?_; refine z_c ?_; refine z_f ?_; refine z_l ?_; refine z_m ?_; refine z_i ?_; refine z_f ?_; refine z_l ?_; refine z_m ?_; refine z_i ?_; refine z_l ?_; refine Wp_pure rfl rfl rfl rfl rfl (fun _ => A_ff c1 (A_lss rfl rfl)) ?_
  refine Wp_end (Stl_nil rfl) nb' ?_
  refine zz ?_
  have hlcap : (G (m, d)).length = capN k.t (m, d) := by have := (hG (m, d)).1; omega
  have hV0 : ∀ p ∈ cellsP k.t (Sc' ++ [(m, d)]), p ∉ cellsP k.t Sc -> (∃ j, 0 <= j /\ p = pl k.t (m, d) j /\ j < capN k.t (m, d)) \/ ∃ s, gridT k.t G p = some s /\ ∀ q, adjF k.t s q -> q ∈ cellsP k.t (Sc' ++ [(m, d)]) := fun p hp hn => by
    obtain ⟨c, hc, j, hj, rfl⟩ := mem_cellsP.1 hp
    rcases List.mem_append.1 hc with g | g
    · obtain ⟨s, h1, h2⟩ := hvain _ (mem_cellsP.2 ⟨c, g, j, hj, rfl⟩) hn
      exact .inr ⟨s, h1, fun q hq => cellsP_mono hsub3 q (h2 q hq)⟩
    · rw [List.mem_singleton.1 g] at hj ⊢
      exact .inl ⟨j, Nat.zero_le _, rfl, hj⟩
  refine Wc_loop (fun (i : Nat) mm ds h' => ds = [] /\ i <= (G (m, d)).length /\ (Ext k.h0 h' /\ KF h2 h' /\ ∃ L3 S3, k.Take h' L3 G /\ k.Look h' S3 /\ S3.Nodup /\ (∀ c ∈ Sc' ++ [(m, d)], c ∈ S3) /\ ∀ p ∈ cellsP k.t S3, p ∉ cellsP k.t Sc -> (∃ j, i <= j /\ p = pl k.t (m, d) j /\ j < capN k.t (m, d)) \/ ∃ s, gridT k.t G p = some s /\ ∀ q, adjF k.t s q -> q ∈ cellsP k.t S3) ∧
      h'.get b1 = some (.cells [i64 k.t.first, i64 k.t.days, .slice k.am k.t.machines.length k.cm, .slice k.ar k.t.reels.length k.cr] 25 false) ∧
      AllK mm [(1, .slice (some ⟨k.ob, 0, none⟩) k.t.machines.length k.t.machines.length), (2, i64 (r : Nat)), (3, .slice (some ⟨k.sb, 0, none⟩) k.t.machines.length k.t.machines.length), (4, ptr b1), (9, i64 (m : Nat)), (10, i64 (d : Nat)), (11, i64 (i : Nat))]) (fun i => (G (m, d)).length - i) 0 ?_ ?_
  · exact ⟨rfl, Nat.zero_le _, ⟨hEx3, hK3, _, _, hT3, hS3, hnd3, (fun _ h => h), hV0⟩, hg1, rfl, rfl, rfl, rfl, rfl, rfl, rfl, trivial⟩
  clear hV0 hEx3 hK3 hT3 hS3 hnd3 hg1 hg1x hcm3 hcp3 hto htr hleaf eL hall
  clear h3
  rintro i mm ds h3 ⟨rfl, hi, ⟨hEx3, hK3, L3, S3, hT3, hS3, hnd3, hsub4, hV3⟩, hg1, hall⟩
  refine Wc.le ?_ (Le.kn hall)
  have hto := hT3.oc hm'
  have htr := hT3.rc hm' hd'
  have hleaf := hT3.leaf m d hm' hd'
  obtain ⟨aL3, eL, _, hsa⟩ := hleaf.srcAt
  rw [eL] at htr
  refine zz ?_
  refine Wo_do rfl rfl rfl rfl (A_ix Und.h Tsz.h rfl rfl) ?_
  refine zz ?_
  refine Wo_do rfl rfl rfl rfl (A_ix Und.h Tsz.h rfl rfl) ?_
  refine zz ?_
  refine Wo_dec rfl rfl rfl rfl (A_lss rfl rfl) (fun hip => ?_) (fun hip => ?_)
  rotate_left
  · have hi2 : i = (G (m, d)).length := by omega
    refine zz ?_
    refine ⟨d + 1, ?_, rfl, hd', hnext hEx3 hK3 hT3 hS3 hnd3 (fun c hc => hsub4 c (hsub3 c hc)) (fun p hp hn => ?_) (fun _ => hsub4 _ (List.mem_append_right _ List.mem_cons_self)), hg1, rfl, rfl, rfl, rfl, rfl, rfl, trivial⟩
    · show k.t.days.toNat - (d + 1) < k.t.days.toNat - d; omega
    · rcases hV3 p hp hn with ⟨j, h1, h2, h3⟩ | g
      · omega
      · exact g
  have hi' : i < (G (m, d)).length := by omega
  obtain ⟨bL, oL, oaL, rfl, hci⟩ := hsa.1 i hi'
  obtain ⟨s, hse⟩ : ∃ s, (G (m, d))[i] = s := ⟨_, rfl⟩
  rw [hse] at hci
  have hsl : s < k.t.reels.length := by rw [<- hse]; exact (hG (m, d)).2 _ (List.getElem_mem hi')
  have hgs : gridT k.t G (pl k.t (m, d) i) = some s := by rw [gridT_pl, List.getElem?_eq_getElem hi', hse]
  have hlt4 : unseenC k.t S3 < n := Nat.lt_of_le_of_lt (unseenC_le hsub4) hlt3
  refine zz ?_
  refine Wc_draw hmix [0, 0, 0, 0, 12, 28, 0, 124, 252, 0, 1020, 2044, 0, 8191] [0, 1, 2, 3, 4, 5, 6, 7, 8, 9, 10, 11, 12] (some 13) [([], none)] (by kernel_rfl) (by kernel_rfl) ?_
  refine z_r ?_; refine z_m ?_; refine z_m ?_; refine z_m ?_; refine z_i ?_; refine z_l ?_; refine z_m ?_; refine z_i ?_; refine z_l ?_; refine z_m ?_; refine z_i ?_; refine z_l ?_; refine z_m ?_
  refine Wp_eff [0, 1, 2, 3, 4, 5, 6, 7, 8, 9, 10, 11, 12] (by kernel_rfl) rfl (Stl_nil rfl) rfl nb rfl (W1_call rfl rfl rfl rfl rfl Bod.h (ih _ hlt4 h3 S3 L3 G s rfl hEx3 hT3 hS3 hnd3 hG hsl) (fun v h5 hv => ?_) (fun _ _ hR => hR.elim))
  refine Wp_end (Stl_nil rfl) nb' ?_
  obtain ⟨L5, G5, S5, hEx5, hK5, hT5, hG5, hS5, hnd5, hsub5, hcase⟩ := hv
  have hg15 := hK5 _ _ _ _ (by decide) hg1
  have hsubA : ∀ c ∈ Sc, c ∈ S3 := fun c hc => hsub4 c (hsub3 c (hsub c hc))
  have hin3 : (m, d) ∈ S3 := hsub4 _ (List.mem_append_right _ List.mem_cons_self)
  have hpi : pl k.t (m, d) i ∈ cellsP k.t S3 := mem_cellsP.2 ⟨_, hin3, i, by omega, rfl⟩
  clear hg1 hto htr hci hleaf hsa eL hall
  rcases hcase with ⟨rfl, hwon⟩ | ⟨rfl, rfl, hlost⟩
  · have hq5 : (G5 (m, d))[i]? = some s := by rw [<- gridT_pl k.t, hwon.keep _ hpi, hgs]
    have hi5 : i < (G5 (m, d)).length := by
      rw [List.getElem?_eq_some_iff] at hq5
      exact hq5.1
    have hto := hT5.oc hm'
    have htr := hT5.rc hm' hd'
    have hleaf := hT5.leaf m d hm' hd'
    rcases hleaf with ⟨_, _, e0⟩ | ⟨bF, sp, op, eL, hgl, _, _, _⟩
    · omega
    rw [eL] at htr
    refine zz ?_
    refine Wo_do rfl rfl rfl rfl (A_ix Und.h Tsz.h rfl rfl) ?_
    refine zz ?_
    refine Wo_do rfl rfl rfl rfl (A_ix Und.h Tsz.h rfl rfl) ?_
    refine zz ?_
    refine Wo_do rfl rfl rfl rfl (A_ix Und.h Tsz.h rfl rfl) ?_
    refine Wo_store rfl Tsz.h rfl rfl hgl rfl rfl (lay_one (by simp; omega)) fun h6 hU6 => ?_
    refine zz ?_
    rw [show 0 + i * 1 = i by omega] at hU6
    have hT6 := hT5.put hm' hd' hi5 (by rw [eL]; rfl) hU6
    refine Wc_ret (Lv_ret rfl ⟨_, _, S5, hU6.ext hEx5 hw0 ((hT5.leaf m d hm' hd').at3 (by rw [eL]; rfl)).2, hK.trans (hK3.trans (hK5.trans (KE.upd hU6 hgl (by decide)))), hT6, fun c => ?_, hS5.ke (KE.upd hU6 hgl (by decide)), hnd5, fun c hc => hsub5 c (hsubA c hc), .inl ⟨rfl, ?_⟩⟩)
    · by_cases e : c = (m, d)
      · subst e
        rw [updC_same]
        refine ⟨by rw [List.length_set]; exact (hG5 _).1, fun x hx => ?_⟩
        rcases List.mem_or_eq_of_mem_set hx with g | g
        · exact (hG5 _).2 x g
        · rw [g]; exact hr
      · rw [updC_other _ _ e]; exact hG5 c
    · rw [gridT_set _ _ _ _ hi5]
      refine won_move (adj_pl.2 ⟨hcan, by omega⟩) (fun hm1 => ?_) hgs (hwon.anti fun q hq => ?_)
      · obtain ⟨c, hc, n', _, e⟩ := mem_cellsP.1 hm1
        exact hin (hsub _ (by rw [(pl_inj e).1]; exact hc))
      · rcases List.mem_append.1 hq with g | g
        · exact cellsP_mono hsubA q g
        · rw [List.mem_singleton.1 g]; exact hpi
  · refine zz ?_
    refine ⟨i + 1, ?_, rfl, hi', ⟨hEx5, hK3.trans hK5, L5, S5, hT5, hS5, hnd5, fun c hc => hsub5 c (hsub4 c hc), fun p hp hn => ?_⟩, hg15, rfl, rfl, rfl, rfl, rfl, rfl, rfl, trivial⟩
    · show (G5 (m, d)).length - (i + 1) < (G5 (m, d)).length - i; omega
    · by_cases h1 : p ∈ cellsP k.t S3
      · rcases hV3 p h1 hn with ⟨j, hj, rfl, hjc⟩ | ⟨x, hx, hx2⟩
        · by_cases e : j = i
          · subst e
            exact .inr ⟨s, hgs, fun q hq => hlost.all q hq⟩
          · exact .inl ⟨j, by omega, rfl, hjc⟩
        · exact .inr ⟨x, hx, fun q hq => cellsP_mono hsub5 q (hx2 q hq)⟩
      · exact .inr (hlost.vain p hp h1)
end Go.Dw
/- R3: the contract of the reference's fits. -/
namespace Go.Dw
open Go Go.Dx Go.Proofs Go.Mt
set_option maxRecDepth 100000
structure RowsM (h0 h : Heap) (Mn Dn ob : Nat) (e1 e2 : TypeId) (x : Value) (j : Nat) (R : Nat -> Nat) : Prop where
  o : h.get ob = some (.cells ((List.range Mn).map fun m => if m < j then .slice (some ⟨R m, 0, none⟩) Dn Dn else .slice none 0 0) e1 false)
  row : ∀ m, m < j -> h.get (R m) = some (.cells ((List.range Dn).map fun _ => x) e2 false)
  inj : ∀ m, m < j -> ∀ m', m' < j -> R m = R m' -> m = m'
  nr : ∀ m, m < j -> h0.nx <= R m
theorem RowsM.ext {h0 h h' : Heap} {Mn Dn ob j : Nat} {e1 e2 : TypeId} {x : Value} {R : Nat -> Nat} (a : RowsM h0 h Mn Dn ob e1 e2 x j R) (he : Ext h h') : RowsM h0 h' Mn Dn ob e1 e2 x j R :=
  ⟨he.get a.o, fun m hm => he.get (a.row m hm), a.inj, a.nr⟩
theorem RowsM.step {h0 h h1 h2 : Heap} {Mn Dn ob j : Nat} {e1 e2 : TypeId} {x : Value} {R : Nat -> Nat} (a : RowsM h0 h Mn Dn ob e1 e2 x j R) (hw : WF h) (h0n : h0.nx <= h.nx) (hE : Ext h h1) (hg : h1.get h.nx = some (.cells ((List.range Dn).map fun _ => x) e2 false)) (hne : e1 ≠ e2) (hj : j < Mn)
    (hU : Upd h1 ob (.cells (((List.range Mn).map fun m => if m < j then .slice (some ⟨R m, 0, none⟩) Dn Dn else .slice none 0 0).set j (.slice (some ⟨h.nx, 0, none⟩) Dn Dn)) e1 false) h2) : RowsM h0 h2 Mn Dn ob e1 e2 x (j + 1) (fun m => if m = j then h.nx else R m) := by
  have hlt : ∀ m, m < j -> R m < h.nx := fun m hm => hw _ _ (a.row m hm)
  refine ⟨?_, fun m hm => ?_, fun m hm m' hm' e => ?_, fun m hm => ?_⟩
  · rw [hU.at', range_set _ _ hj]
    congr 3
    funext m
    by_cases h3 : m = j
    · subst h3; simp
    · rw [if_neg h3]
      by_cases h4 : m < j
      · rw [if_pos h4, if_pos (by omega), if_neg h3]
      · rw [if_neg h4, if_neg (by omega)]
  · by_cases h3 : m = j
    · subst h3
      simp only [if_true]
      exact hU.get (fun e => hne (cells_el (hE.get a.o) (e ▸ hg))) hg
    · simp only [h3, if_false]
      have hr := hE.get (a.row m (by omega))
      exact hU.get (fun e => hne (cells_el (hE.get a.o) (e ▸ hr))) hr
  · by_cases h3 : m = j <;> by_cases h4 : m' = j <;> simp only [h3, h4, if_true, if_false] at e
    · omega
    · have := hlt m' (by omega); omega
    · have := hlt m (by omega); omega
    · exact a.inj m (by omega) m' (by omega) e
  · by_cases h3 : m = j
    · simp only [h3, if_true]; exact h0n
    · simp only [h3, if_false]; exact a.nr m (by omega)
theorem RowsM.take {h0 h : Heap} {Mn Dn ob : Nat} {R : Nat -> Nat} (a : RowsM h0 h Mn Dn ob 160 31 (.slice none 0 0) Mn R) : TakeAt h0 h Mn Dn ob R (fun _ => .slice none 0 0) (fun _ => []) := by
  refine ⟨?_, a.row, a.inj, fun _ _ _ _ => FreshSl.nil _ _ _ _, (fun _ _ _ _ _ _ _ _ _ hb => nomatch hb), a.nr⟩
  rw [a.o]
  congr 2
  exact List.map_congr_left fun m hm => if_pos (List.mem_range.1 hm)
theorem RowsM.look {h0 h : Heap} {Mn Dn sb : Nat} {R : Nat -> Nat} (a : RowsM h0 h Mn Dn sb 162 4 (.bool false) Mn R) : LookAt h0 h Mn Dn sb R [] := by
  refine ⟨?_, fun m hm => ?_, a.inj, a.nr⟩
  · rw [a.o]
    congr 2
    exact List.map_congr_left fun m hm => if_pos (List.mem_range.1 hm)
  · rw [a.row m hm]
    simp
theorem rep_range (x : Value) (n : Nat) : rep n [x] = (List.range n).map fun _ => x := by
  apply List.ext_getElem?
  intro i
  by_cases h : i < n
  · rw [rep_get [x] n i (by simpa using h)]
    simp [h, Nat.mod_one]
  · rw [List.getElem?_eq_none (by rw [rep_length]; simp; omega), List.getElem?_eq_none (by simp; omega)]
set_option maxHeartbeats 8000000 in
theorem refFitsIn_sv {tc : List Value} {t : Task} {a : Option Addr} {l : List Int} {cap : Nat} {h : Heap} (ht : TaskAt h tc t) (hf : t.Fit) (hV : Valid t) (hI : IntsAt h a l) (hln : l.Nodup) (hl0 : ∀ x ∈ l, 0 <= x /\ x < t.reels.length) (hlen : l.length < 9223372036854775808) :
    Sv Tryz.prog 60 [.agg ⟨tc⟩, .slice a l.length cap] h (RetP fun v h' => ∃ b, v = .bool b /\ (b = true ↔ Fit (adjF t) (natsL l)) /\ Ext h h') := by
  obtain ⟨am, cm, ar, cr, rfl, hM, hR⟩ := ht
  refine Sv_wf fun hw => ?_
  have hm1 := hV.m1
  have hd1 := hV.d1
  have hd0 := hV.d0
  refine Sv_enter Tryz.func60 rfl (by rw [Tryz.ntmps60]; rfl) ?_; show Wc Tryz.prog ⟨60, 56, none⟩ _ _ _ _ _
  refine zz ?_
  refine Wo_box rfl rfl rfl fun h1 hE1 hW1 hg1 hx1 => ?_
  refine zz ?_
  refine Wo_makeSlice rfl rfl Und.h (by' := 24) inferInstance Zr.h rfl rfl rfl (by omega) (by omega) fun h2 hE2 hW2 hg2 hx2 => ?_
  refine zz ?_
  replace hg1 := hE2.get hg1
  have hon : h.nx <= h1.nx := by omega
  replace hE1 := hE1.trans hE2
  have hR0 : RowsM h h2 t.machines.length t.days.toNat h1.nx 160 31 (.slice none 0 0) 0 (fun _ => 0) := by
    refine ⟨?_, (fun _ hm => by omega), (fun _ hm => by omega), (fun _ hm => by omega)⟩
    rw [hg2]
    congr 2
    exact (rep_range _ _).trans (List.map_congr_left fun m _ => (if_neg (by omega)).symm)
  clear hE2 hW1 hW2 hg2 hx2
  generalize hb1 : h.nx = b1 at *
  generalize h1.nx = ob at *
  clear hx1
  refine Wc_loop (fun (j : Nat) mm ds h' => ds = [] /\ j <= t.machines.length /\ (Ext h h' /\ h'.get b1 = some (.cells [i64 t.first, i64 t.days, .slice am t.machines.length cm, .slice ar t.reels.length cr] 25 false) /\ ∃ R, RowsM h h' t.machines.length t.days.toNat ob 160 31 (.slice none 0 0) j R) ∧
      AllK mm [(1, .slice a l.length cap), (2, ptr b1), (5, .slice (some ⟨ob, 0, none⟩) t.machines.length t.machines.length), (6, i64 (j : Nat))]) (fun j => t.machines.length - j) 0 ?_ ?_
  · exact ⟨rfl, Nat.zero_le _, ⟨hE1, hg1, _, hR0⟩, rfl, rfl, rfl, rfl, trivial⟩
  clear hE1 hg1 hR0
  rintro j mm ds h1 ⟨rfl, hj, ⟨hE1, hg1, R, hRo⟩, hall⟩
  refine Wc_wf fun hw1 => ?_
  refine Wc.le ?_ (Le.kn hall)
  refine zz ?_
  refine Wo_dec rfl rfl rfl rfl (A_lss rfl rfl) (fun hjp => ?_) (fun hjp => ?_)
  · have hj' : j < t.machines.length := by omega
    refine zz ?_
    refine Wo_makeSlice (k := t.days.toNat) rfl rfl Und.h (by' := 24) inferInstance Zr.h rfl rfl (by omega) (by omega) (by omega) fun h3 hE3 hW3 hg3 hx3 => ?_
    refine zz ?_
    refine Wo_do rfl rfl rfl rfl (A_ix Und.h Tsz.h rfl rfl) ?_
    refine Wo_store rfl Tsz.h rfl rfl (hE3.get hRo.o) rfl rfl (lay_one (by simp; omega)) fun h4 hU4 => ?_
    rw [show 0 + j * 1 = j by omega] at hU4
    have hR4 := hRo.step hw1 hE1.2.1 hE3 (by rw [hg3]; congr 2; exact rep_range _ _) (by decide) hj' hU4
    have hE4 : Ext h h4 := hU4.ext (hE1.trans hE3) hw (by omega)
    have hg4 := hU4.get (fun e => absurd (cells_el hg1 (e ▸ hRo.o)) (by decide)) (hE3.get hg1)
    refine zz ?_
    refine ⟨j + 1, ?_, rfl, hj', ⟨hE4, hg4, _, hR4⟩, rfl, rfl, rfl, rfl, trivial⟩
    show t.machines.length - (j + 1) < t.machines.length - j; omega
  have hj2 : j = t.machines.length := by omega
  subst hj2
  have hT1 := hRo.take
  refine zz ?_
  refine Wc_loop (fun (i : Nat) mm ds h' => ds = [] /\ i <= l.length /\ (Ext h h' /\ h'.get b1 = some (.cells [i64 t.first, i64 t.days, .slice am t.machines.length cm, .slice ar t.reels.length cr] 25 false) /\ ∃ L G f, TakeAt h h' t.machines.length t.days.toNat ob R L G /\ GOK t G /\ M (adjF t) (gridT t G) (natsL (l.take i)) f (fun _ => False)) ∧
      AllK mm [(1, .slice a l.length cap), (2, ptr b1), (5, .slice (some ⟨ob, 0, none⟩) t.machines.length t.machines.length), (7, i64 (i : Nat))]) (fun i => l.length - i) 0 ?_ ?_
  · refine ⟨rfl, Nat.zero_le _, ⟨hE1, hg1, _, _, fun _ => (0, 0, 0), hT1, fun c => ⟨Nat.zero_le _, (fun _ h => nomatch h)⟩, ⟨(fun _ h => nomatch h), (fun _ h => nomatch h), fun p r _ hp => ?_⟩⟩, rfl, rfl, rfl, rfl, trivial⟩
    unfold gridT at hp
    split at hp <;> simp at hp
  clear hE1 hg1 hRo hT1 hall hw1
  clear h1
  rintro i mm ds h1 ⟨rfl, hi, ⟨hE1, hg1, L, G, f, hT1, hG, hMt⟩, hall⟩
  refine Wc_wf fun hw1 => ?_
  refine Wc.le ?_ (Le.kn hall)
  refine zz ?_
  refine Wo_dec rfl rfl rfl rfl (A_lss rfl rfl) (fun hip => ?_) (fun hip => ?_)
  rotate_left
  · have hi2 : i = l.length := by omega
    subst hi2
    rw [List.take_length] at hMt
    refine zz ?_
    exact Wc_ret (Lv_ret rfl ⟨true, rfl, ⟨fun _ => hMt.fit, fun _ => rfl⟩, hE1⟩)
  have hi' : i < l.length := by omega
  refine zz ?_
  refine Wo_makeSlice rfl rfl Und.h (by' := 24) inferInstance Zr.h rfl rfl rfl (by omega) (by omega) fun h2 hE2 hW2 hg2 hx2 => ?_
  refine zz ?_
  have hsn : h.nx <= h1.nx := hE1.2.1
  have hR0 : RowsM h h2 t.machines.length t.days.toNat h1.nx 162 4 (.bool false) 0 (fun _ => 0) := by
    refine ⟨?_, (fun _ hm => by omega), (fun _ hm => by omega), (fun _ hm => by omega)⟩
    rw [hg2]
    congr 2
    exact (rep_range _ _).trans (List.map_congr_left fun m _ => (if_neg (by omega)).symm)
  replace hg1 := hE2.get hg1
  replace hT1 := hT1.ext hE2
  replace hE1 := hE1.trans hE2
  clear hE2 hW2 hg2 hx2 hw1 hall
  generalize h1.nx = sb at *
  clear h1
  refine Wc_loop (fun (j : Nat) mm ds h' => ds = [] /\ j <= t.machines.length /\ (Ext h h' /\ h'.get b1 = some (.cells [i64 t.first, i64 t.days, .slice am t.machines.length cm, .slice ar t.reels.length cr] 25 false) /\ TakeAt h h' t.machines.length t.days.toNat ob R L G /\ ∃ R2, RowsM h h' t.machines.length t.days.toNat sb 162 4 (.bool false) j R2) ∧
      AllK mm [(1, .slice a l.length cap), (2, ptr b1), (5, .slice (some ⟨ob, 0, none⟩) t.machines.length t.machines.length), (7, i64 (i : Nat)), (8, .slice (some ⟨sb, 0, none⟩) t.machines.length t.machines.length), (9, i64 (j : Nat))]) (fun j => t.machines.length - j) 0 ?_ ?_
  · exact ⟨rfl, Nat.zero_le _, ⟨hE1, hg1, hT1, _, hR0⟩, rfl, rfl, rfl, rfl, rfl, rfl, trivial⟩
  clear hE1 hg1 hR0 hT1
  clear h2
  rintro j mm ds h1 ⟨rfl, hj, ⟨hE1, hg1, hT1, R2, hRo⟩, hall⟩
  refine Wc_wf fun hw1 => ?_
  refine Wc.le ?_ (Le.kn hall)
  refine zz ?_
  refine Wo_dec rfl rfl rfl rfl (A_lss rfl rfl) (fun hjp => ?_) (fun hjp => ?_)
  · have hj' : j < t.machines.length := by omega
    refine zz ?_
    refine Wo_makeSlice (k := t.days.toNat) rfl rfl Und.h (by' := 1) inferInstance Zr.h rfl rfl (by omega) (by omega) (by omega) fun h3 hE3 hW3 hg3 hx3 => ?_
    refine zz ?_
    refine Wo_do rfl rfl rfl rfl (A_ix Und.h Tsz.h rfl rfl) ?_
    refine Wo_store rfl Tsz.h rfl rfl (hE3.get hRo.o) rfl rfl (lay_one (by simp; omega)) fun h4 hU4 => ?_
    rw [show 0 + j * 1 = j by omega] at hU4
    have hR4 := hRo.step hw1 hE1.2.1 hE3 (by rw [hg3]; congr 2; exact rep_range _ _) (by decide) hj' hU4
    have hE4 : Ext h h4 := hU4.ext (hE1.trans hE3) hw (by omega)
    have hg4 := hU4.get (fun e => absurd (cells_el hg1 (e ▸ hRo.o)) (by decide)) (hE3.get hg1)
    have hT4 := (hT1.ext hE3).ke (KE.upd hU4 (hE3.get hRo.o) (by decide))
    refine zz ?_
    refine ⟨j + 1, ?_, rfl, hj', ⟨hE4, hg4, hT4, _, hR4⟩, rfl, rfl, rfl, rfl, rfl, rfl, trivial⟩
    show t.machines.length - (j + 1) < t.machines.length - j; omega
  have hj2 : j = t.machines.length := by omega
  subst hj2
  have hS1 := hRo.look
  have hx := hl0 _ (List.getElem_mem hi')
  obtain ⟨r, hre⟩ : ∃ r : Nat, l[i] = r := ⟨l[i].toNat, by omega⟩
  have hr : r < t.reels.length := by omega
  obtain ⟨bI, oI, oaI, rfl, hci⟩ := (hI.ext hE1) i hi'
  rw [hre] at hci
  have hnin : r ∉ natsL (l.take i) := fun hm => by
    obtain ⟨x, hx1, hx2⟩ := List.mem_map.1 hm
    have h0 := hl0 x (List.mem_of_mem_take hx1)
    have e : x = l[i] := by omega
    obtain ⟨j, hj, hje⟩ := List.getElem_of_mem hx1
    rw [List.getElem_take] at hje
    have := (List.getElem_inj hln).1 (hje.trans e)
    simp at hj; omega
  have hcons : ∀ s, s ∈ r :: natsL (l.take i) ↔ s ∈ natsL (l.take (i + 1)) := fun s => by
    rw [take_succ hi', hre]
    simp only [natsL, List.map_append, List.map_cons, List.map_nil, List.mem_append, List.mem_cons, List.not_mem_nil, or_false]
    rw [Int.toNat_natCast]
    exact or_comm
  refine zz ?_
  refine Wc_draw hmix [0, 0, 0, 0, 12, 28, 0, 127, 255] [0, 1, 2, 3, 4, 5, 6] (some 7) [([8], none)] (by kernel_rfl) (by kernel_rfl) ?_
  refine z_r ?_; refine z_m ?_; refine z_m ?_; refine z_m ?_; refine z_i ?_; refine z_l ?_; refine z_m ?_
  refine Wp_eff [0, 1, 2, 3, 4, 5, 6] (by kernel_rfl) rfl (Stl_nil rfl) rfl nb rfl (W1_call rfl rfl rfl rfl rfl Bod.h (find_sv ⟨h, t, am, ar, cm, cr, ob, R, sb, R2⟩ ⟨hw, hM, hR, hf, hV⟩ _ h1 [] L G r rfl hE1 hT1 hS1 List.nodup_nil hG hr) (fun v h5 hv => ?_) (fun _ _ hR => hR.elim))
  obtain ⟨L5, G5, S5, hEx5, hK5, hT5, hG5, hS5, hnd5, _, hcase⟩ := hv
  have hg15 := hK5 _ _ _ _ (by decide) hg1
  clear hg1 hT1 hS1 hRo hall
  rcases hcase with ⟨rfl, hwon⟩ | ⟨rfl, rfl, hlost⟩
  · refine z_n ?_
    refine Wp_end (Stl_nil rfl) nb' ?_
    refine zz ?_
    obtain ⟨f', hM'⟩ := hwon.now _ f _ hMt hnin (fun _ h => h.elim)
    refine ⟨i + 1, ?_, rfl, hi', ⟨hEx5, hg15, L5, G5, f', hT5, hG5, M_perm hM' hcons⟩, rfl, rfl, rfl, rfl, trivial⟩
    show l.length - (i + 1) < l.length - i; omega
  · refine z_n ?_
    refine Wp_end (Stl_nil rfl) nb' ?_
    refine zz ?_
    refine Wc_ret (Lv_ret rfl ⟨false, rfl, ⟨(fun h => nomatch h), fun hF => (lost_unfit hMt hnin (cellsP_nodup t hnd5) hlost (hF.mono fun s hs => ?_)).elim⟩, hEx5⟩)
    obtain ⟨x, hx1, hx2⟩ := List.mem_map.1 ((hcons s).1 hs)
    exact List.mem_map.2 ⟨x, List.mem_of_mem_take hx1, hx2⟩
end Go.Dw
