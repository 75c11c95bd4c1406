/- W1: contracts: the reference's with, without, sorted. -/
import Derived.Test.YtcjmpdpgfmjcgaaGreatDoorLG2
import Derived.Test.YtcjmpdpgfmjcgaaGreatDoorLG14
import Derived.Test.YtcjmpdpgfmjcgaaGreatDoorLG11
import Derived.Test.YtcjmpdpgfmjcgaaGreatDoorLG13
namespace Go.Dw
open Go Go.Dx Go.Proofs
set_option maxRecDepth 100000
theorem FreshSl.upd {h0 h h' : Heap} {b o n : Nat} {sp : Option Nat} {el : TypeId} {cs cs' : List Value} {op : Bool} (hF : FreshSl h0 h (.slice (some ⟨b, o, sp⟩) n n) el 1 cs n) (hU : Upd h b (.cells cs' el op) h') (hl : cs'.length = cs.length) : FreshSl h0 h' (.slice (some ⟨b, o, sp⟩) n n) el 1 cs' n := by
 rcases hF with ⟨e, _⟩ | ⟨b', sp', op', e, h2, h3, h4, h5⟩
 ·cases e
 ·cases e; exact .inr ⟨b, sp, op, rfl, hU.at', by omega, h4, h5⟩
def Sorted (l : List Int) : Prop := l.Pairwise (· <= ·)
end Go.Dw
/- W2: the contract of the reference's order: reels by risk. -/
namespace Go.Dw
open Go Go.Dx Go.Proofs
set_option maxRecDepth 100000
def riskN (t : Task) (r : Nat) : Int := (reelAt t (r : Nat)).risk
def ByRisk (t : Task) (s : List Nat) : Prop := s.Pairwise fun a b => riskN t b < riskN t a \/ (riskN t a = riskN t b /\ a < b)
end Go.Dw
/- W7: which reels are kept, with no program in sight: by risk, each that still fits. -/
namespace Go.Dw
open Go Go.Dx Go.Proofs Go.Mt
theorem perm_pw_eq {α : Type} {R : α -> α -> Prop} (ha : ∀ a b, R a b -> ¬ R b a) : ∀ {l s : List α}, l.Perm s -> l.Pairwise R -> s.Pairwise R -> l = s
 | [], s, hp, _, _ => (List.nil_perm.1 hp).symm
 | a :: l, [], hp, _, _ => absurd hp.symm (by intro h; exact absurd (List.nil_perm.1 h) (by simp))
 | a :: l, b :: s, hp, h1, h2 => by
  rw [List.pairwise_cons] at h1 h2
  have e : a = b := Classical.byContradiction fun hne => by
   have h3 : a ∈ s := (List.mem_cons.1 (hp.subset List.mem_cons_self)).resolve_left hne
   have h4 : b ∈ l := (List.mem_cons.1 (hp.symm.subset List.mem_cons_self)).resolve_left (fun e => hne e.symm)
   exact ha _ _ (h1.1 b h4) (h2.1 a h3)
  subst e
  rw [perm_pw_eq ha ((List.perm_cons a).1 hp) h1.2 h2.2]
abbrev fitN (t : Task) (s : List Nat) : Prop := Fit (adjB t fun _ => false) s
open Classical in
noncomputable def byN (t : Task) (kept : List Nat) (r : Nat) : List Nat := (List.range kept.length).flatMap fun i => if fitN t (kept.take i ++ kept.drop (i + 1) ++ [r]) then [kept.getD i 0] else []
open Classical in
noncomputable def stepN (t : Task) (x : List Nat × List (Nat × List Nat)) (r : Nat) : List Nat × List (Nat × List Nat) := if fitN t (x.1 ++ [r]) then (x.1 ++ [r], x.2) else (x.1, x.2 ++ [(r, byN t x.1 r)])
noncomputable def goN (t : Task) (s : List Nat) : List Nat × List (Nat × List Nat) := s.foldl (stepN t) ([], [])
end Go.Dw
/- W9: the turns of a plan, with no program in sight: by places that are barred, and by counts that are lowered. -/
namespace Go.Dw
open Go Go.Dx Go.Proofs Go.Mt
theorem fit_map {P Q : Type} {adj : Nat -> P -> Prop} {adj' : Nat -> Q -> Prop} {K : List Nat} (f : Q -> P) (g : P -> Q) (h : ∀ r q, adj' r q ↔ adj r (f q)) (hfg : ∀ r p, adj r p -> f (g p) = p) (hgf : ∀ q, g (f q) = q) : Fit adj' K ↔ Fit adj K := by
 constructor
 ·rintro ⟨F, h1, h2⟩
  refine ⟨fun r => f (F r), fun r hr => (h r _).1 (h1 r hr), fun r hr s hs e => h2 r hr s hs ?_⟩
  rw [<- hgf (F r), <- hgf (F s)]; exact congrArg g e
 ·rintro ⟨F, h1, h2⟩
  refine ⟨fun r => g (F r), fun r hr => (h r _).2 ?_, fun r hr s hs e => h2 r hr s hs ?_⟩
  ·rw [hfg r _ (h1 r hr)]; exact h1 r hr
  ·rw [<- hfg r _ (h1 r hr), <- hfg s _ (h1 s hs)]; exact congrArg f e
theorem fitC_mono {C : Type} [DecidableEq C] {adj adj' : Nat -> C -> Prop} {cap cap' : C -> Nat} {K : List Nat} (ha : ∀ r ∈ K, ∀ c, adj r c -> adj' r c) (hc : ∀ r ∈ K, ∀ c, adj r c -> cap c <= cap' c) (h : FitC adj cap K) : FitC adj' cap' K := by
 obtain ⟨f, h1, h2⟩ := h
 refine ⟨f, fun r hr => ha r hr _ (h1 r hr), fun c => ?_⟩
 by_cases he : ∃ r ∈ K, f r = c
 ·obtain ⟨r, hr, rfl⟩ := he
  exact Nat.le_trans (h2 _) (hc r hr _ (h1 r hr))
 ·have : (K.filter fun r => decide (f r = c)) = [] := List.filter_eq_nil_iff.2 fun r hr => by simpa using fun e => he ⟨r, hr, e⟩
  rw [this]; exact Nat.zero_le _
def adjM (t : Task) (r : Nat) (c : Int × Int) : Prop := c.1 ∈ (reelAt t (r : Nat)).machines /\ (reelAt t (r : Nat)).ready <= c.2 /\ c.2 <= (reelAt t (r : Nat)).due
def freeN (t : Task) (bar : Pl -> Bool) (c : Int × Int) : List Nat := (List.range (capT t c.1 c.2).toNat).filter fun n => !bar (c.1, c.2, (n : Int))
theorem freeN_nodup (t : Task) (bar : Pl -> Bool) (c : Int × Int) : (freeN t bar c).Nodup := List.nodup_range.sublist List.filter_sublist
theorem mem_freeN {t : Task} {bar : Pl -> Bool} {c : Int × Int} {n : Nat} : n ∈ freeN t bar c ↔ n < (capT t c.1 c.2).toNat /\ bar (c.1, c.2, (n : Int)) = false := by simp [freeN]
theorem fit_cells {t : Task} {bar : Pl -> Bool} {K : List Nat} (hK : K.Nodup) : Fit (adjB t bar) K ↔ FitC (adjM t) (fun c => (freeN t bar c).length) K := by
 rw [<- fit_iff (adj := fun r (q : (Int × Int) × Nat) => adjB t bar r (q.1.1, q.1.2, (q.2 : Int))) (fun c => freeN_nodup t bar c) hK]
 ·refine (fit_map (fun q : (Int × Int) × Nat => ((q.1.1, q.1.2, (q.2 : Int)) : Pl)) (fun p : Pl => ((p.1, p.2.1), p.2.2.toNat)) (fun _ _ => Iff.rfl) (fun r p hp => ?_) (fun q => ?_)).symm
  ·obtain ⟨m, d, n⟩ := p
   have h := (mem_placesL.1 hp.1).2.2.2
   show (m, d, ((n.toNat : Nat) : Int)) = (m, d, n)
   rw [Int.toNat_of_nonneg h.1]
  ·rfl
 ·rintro r _ ⟨m, d⟩ n
  rw [mem_freeN]
  simp only [adjB, mem_placesL, adjM]
  constructor
  ·rintro ⟨⟨h1, h2, h3, h4, h5⟩, h6⟩; exact ⟨⟨h1, h2, h3⟩, by omega, h6⟩
  ·rintro ⟨⟨h1, h2, h3⟩, h4, h6⟩; exact ⟨⟨h1, h2, h3, by omega, by omega⟩, h6⟩
theorem free_none (t : Task) (c : Int × Int) : (freeN t (fun _ => false) c).length = (capT t c.1 c.2).toNat := by
 unfold freeN
 show ((List.range (capT t c.1 c.2).toNat).filter fun _ => true).length = _
 rw [List.filter_eq_self.2 fun _ _ => rfl, List.length_range]
theorem fitN_cells {t : Task} {K : List Nat} (hK : K.Nodup) : fitN t K ↔ FitC (adjM t) (fun c => (capT t c.1 c.2).toNat) K := by
 rw [fitN, fit_cells hK]
 simp only [free_none]
def lowP (d : Nat) (x : Mach) : Mach := ⟨x.name, x.places.modify d (· - 1)⟩
def low (u : Task) (m d : Nat) : Task := ⟨u.first, u.days, u.machines.modify m (lowP d), u.reels⟩
def capM (u : Task) (m d : Nat) : Int := (u.machines.getD m noMach).places.getD d 0
theorem getD_modify {α : Type} {l : List α} {i j : Nat} {f : α -> α} {x : α} : (l.modify i f).getD j x = if i = j /\ j < l.length then f (l.getD j x) else l.getD j x := by
 simp only [List.getD_eq_getElem?_getD, List.getElem?_modify]
 by_cases h : i = j
 ·subst h
  by_cases hl : i < l.length
  ·simp [hl]
  ·simp [hl]
 ·simp [h]
theorem capM_low {u : Task} {m d m' d' : Nat} (hm : m < u.machines.length) (hd : d < (u.machines.getD m noMach).places.length) : capM (low u m d) m' d' = if m' = m /\ d' = d then capM u m d - 1 else capM u m' d' := by
 unfold capM low
 rw [getD_modify]
 by_cases h : m' = m
 ·subst h
  rw [if_pos ⟨rfl, hm⟩]
  show ((u.machines.getD m' noMach).places.modify d (· - 1)).getD d' 0 = _
  rw [getD_modify]
  by_cases h2 : d' = d
  ·subst h2; rw [if_pos ⟨rfl, hd⟩, if_pos ⟨rfl, rfl⟩]
  ·rw [if_neg (fun e => h2 e.1.symm), if_neg (fun e => h2 e.2)]
 ·rw [if_neg (fun e => h e.1.symm), if_neg (fun e => h e.1)]
theorem low_len (u : Task) (m d : Nat) : (low u m d).machines.length = u.machines.length := by simp [low]
structure Lowd (t u : Task) : Prop where
 first : u.first = t.first
 days : u.days = t.days
 reels : u.reels = t.reels
 len : u.machines.length = t.machines.length
 pl : ∀ m, m < t.machines.length -> ((u.machines.getD m noMach).places.length : Int) = t.days
 cap : ∀ m d, 0 <= capM u m d /\ capM u m d <= 20
theorem getD_mem {α : Type} {l : List α} {i : Nat} {x : α} (h : i < l.length) : l.getD i x ∈ l := by rw [List.getD_eq_getElem?_getD, List.getElem?_eq_getElem h]; exact List.getElem_mem h
theorem getD_out {α : Type} {l : List α} {i : Nat} {x : α} (h : l.length <= i) : l.getD i x = x := by rw [List.getD_eq_getElem?_getD, List.getElem?_eq_none h]; rfl
theorem Lowd.refl {t : Task} (hV : Valid t) : Lowd t t := by
 refine ⟨rfl, rfl, rfl, rfl, fun m hm => (hV.ms _ (getD_mem hm)).1, fun m d => ?_⟩
 unfold capM
 rcases Nat.lt_or_ge m t.machines.length with hm | hm
 ·rcases Nat.lt_or_ge d (t.machines.getD m noMach).places.length with hd | hd
  ·exact (hV.ms _ (getD_mem hm)).2 _ (getD_mem hd)
  ·rw [getD_out hd]; omega
 ·rw [getD_out hm]; simp [noMach]
theorem Lowd.low {t u : Task} (h : Lowd t u) (hV : Valid t) {m d : Nat} (hm : m < t.machines.length) (hd : d < t.days.toNat) (hc : capM u m d ≠ 0) : Lowd t (low u m d) := by
 have hp := h.pl m hm
 have hm' : m < u.machines.length := by rw [h.len]; exact hm
 have hd' : d < (u.machines.getD m noMach).places.length := by omega
 refine ⟨h.first, h.days, h.reels, by rw [low_len, h.len], fun m' hm2 => ?_, fun m' d' => ?_⟩
 ·show (((u.machines.modify m (lowP d)).getD m' noMach).places.length : Int) = _
  rw [getD_modify]
  split
  ·show ((((u.machines.getD m' noMach).places.modify d (· - 1)).length : Nat) : Int) = _
   rw [List.length_modify]; exact h.pl m' hm2
  ·exact h.pl m' hm2
 ·rw [capM_low hm' hd']
  have h1 := h.cap m d
  have h2 := h.cap m' d'
  split <;> omega
theorem Lowd.valid {t u : Task} (h : Lowd t u) (hV : Valid t) : Valid u := by
 refine ⟨by rw [h.first]; exact hV.f0, by rw [h.first]; exact hV.f1, by rw [h.days]; exact hV.d0, by rw [h.days]; exact hV.d1, by rw [h.first, h.days]; exact hV.last, by rw [h.len]; exact hV.m0, by rw [h.len]; exact hV.m1, by rw [h.reels]; exact hV.r1, fun x hx => ?_, fun r hr => ?_⟩
 ·obtain ⟨m, hm, rfl⟩ := List.getElem_of_mem hx
  have e : u.machines.getD m noMach = u.machines[m] := by rw [List.getD_eq_getElem?_getD, List.getElem?_eq_getElem hm]; rfl
  have h1 := h.pl m (by rw [<- h.len]; exact hm)
  rw [e] at h1
  refine ⟨by rw [h.days]; exact h1, fun n hn => ?_⟩
  obtain ⟨d, hd, rfl⟩ := List.getElem_of_mem hn
  have h2 := h.cap m d
  unfold capM at h2
  rw [e] at h2
  have e2 : u.machines[m].places.getD d 0 = u.machines[m].places[d] := by rw [List.getD_eq_getElem?_getD, List.getElem?_eq_getElem hd]; rfl
  rw [e2] at h2; exact h2
 ·rw [h.reels] at hr
  rw [h.len, h.first, h.days]
  exact hV.rs r hr
theorem Lowd.reelAt {t u : Task} (h : Lowd t u) (r : Int) : reelAt u r = reelAt t r := by unfold Dw.reelAt; rw [h.reels]
theorem Lowd.canB {t u : Task} (h : Lowd t u) (r m d : Int) : canB u r m d = canB t r m d := by unfold Dw.canB; rw [h.reelAt, h.first]
theorem Lowd.adjM {t u : Task} (h : Lowd t u) (r : Nat) (c : Int × Int) : adjM u r c ↔ adjM t r c := by unfold Dw.adjM; rw [h.reelAt]
theorem capT_M {u : Task} {m d : Nat} : capT u m (u.first + d) = capM u m d := by
 unfold capT capM
 rw [Int.toNat_natCast, show (u.first + (d : Int) - u.first).toNat = d by omega]
def cellsT (t : Task) : List (Nat × Nat) := (List.range t.days.toNat).flatMap fun d => (List.range t.machines.length).map fun m => (d, m)
def ltC (a b : Nat × Nat) : Prop := a.1 < b.1 \/ (a.1 = b.1 /\ a.2 < b.2)
open Classical in
noncomputable def okC (u : Task) (r : Nat) (rest : List Nat) (c : Nat × Nat) : Bool := decide (canB u r c.2 c.1 = true /\ capM u c.2 c.1 ≠ 0 /\ fitN (low u c.2 c.1) rest)
noncomputable def turnC (u : Task) (r : Nat) (rest : List Nat) : Option (Nat × Nat) := (cellsT u).find? (okC u r rest)
noncomputable def turnsG (u : Task) : List Nat -> List Turn
 | [] => []
 | r :: rest => match turnC u r rest with
  | none => turnsG u rest
  | some c => ⟨r, c.2, u.first + c.1⟩ :: turnsG (low u c.2 c.1) rest
open Classical in
noncomputable def barL (G : List Pl) (p : Pl) : Bool := decide (p ∈ G)
open Classical in
noncomputable def okP (t : Task) (G : List Pl) (rest : List Nat) (p : Pl) : Bool := decide (p ∉ G /\ Fit (adjB t (barL (p :: G))) rest)
open Classical in
theorem barL_iff {G : List Pl} {p : Pl} : barL G p = true ↔ p ∈ G := decide_eq_true_iff
open Classical in
theorem barL_ff {G : List Pl} {p : Pl} : barL G p = false ↔ p ∉ G := decide_eq_false_iff_not
noncomputable def turnP (t : Task) (G : List Pl) (r : Nat) (rest : List Nat) : Option Pl := (placesL t (r : Nat)).find? (okP t G rest)
noncomputable def turnsP (t : Task) (G : List Pl) : List Nat -> List Turn
 | [] => []
 | r :: rest => match turnP t G r rest with
  | none => turnsP t G rest
  | some p => ⟨r, p.1, p.2.1⟩ :: turnsP t (p :: G) rest
structure BarLow (t u : Task) (G : List Pl) : Prop where
 low : Lowd t u
 eq : ∀ m d, m < t.machines.length -> d < t.days.toNat -> capM u m d = (freeN t (barL G) ((m : Int), t.first + (d : Int))).length
theorem BarLow.start {t : Task} (hV : Valid t) : BarLow t t [] := by
 refine ⟨Lowd.refl hV, fun m d hm hd => ?_⟩
 have e : barL [] = fun _ => false := by funext p; exact barL_ff.2 (by simp)
 rw [e, free_none]
 show _ = ((capT t (m : Int) (t.first + (d : Int))).toNat : Int)
 rw [capT_M]
 have := ((Lowd.refl hV).cap m d).1
 omega
theorem adjM_cell {t : Task} (hV : Valid t) {r : Nat} (hr : r < t.reels.length) {m d : Int} (h : adjM t r (m, d)) : ∃ m' d' : Nat, m = m' /\ d = t.first + d' /\ m' < t.machines.length /\ d' < t.days.toNat := by
 obtain ⟨h1, h2, h3⟩ := h
 rw [reelAt_nat hr] at h1 h2 h3
 obtain ⟨_, g1, _, g2, _⟩ := hV.rs _ (List.getElem_mem hr)
 have := g1 m h1
 exact ⟨m.toNat, (d - t.first).toNat, by omega, by omega, by omega, by omega⟩
theorem BarLow.fit {t u : Task} {G : List Pl} (h : BarLow t u G) (hV : Valid t) {K : List Nat} (hK : K.Nodup) (hr : ∀ r ∈ K, r < t.reels.length) : Fit (adjB t (barL G)) K ↔ fitN u K := by
 rw [fitN_cells hK, fit_cells hK]
 have key : ∀ r ∈ K, ∀ c, adjM t r c -> (freeN t (barL G) c).length = (capT u c.1 c.2).toNat := by
  rintro r hrK ⟨m, d⟩ hc
  obtain ⟨m', d', rfl, rfl, hm, hd⟩ := adjM_cell hV (hr r hrK) hc
  have h1 := h.eq m' d' hm hd
  have h2 : capT u (m' : Int) (t.first + (d' : Int)) = capM u m' d' := by rw [<- h.low.first]; exact capT_M
  show _ = (capT u (m' : Int) (t.first + (d' : Int))).toNat
  rw [h2, h1]; rfl
 constructor
 ·exact fitC_mono (fun r _ c hc => (h.low.adjM r c).2 hc) (fun r hrK c hc => Nat.le_of_eq (key r hrK c hc))
 ·exact fitC_mono (fun r _ c hc => (h.low.adjM r c).1 hc) (fun r hrK c hc => Nat.le_of_eq (key r hrK c ((h.low.adjM r c).1 hc)).symm)
theorem filter_rem {l : List Nat} {p : Nat -> Bool} {n : Nat} (hd : l.Nodup) (hn : n ∈ l) (hp : p n = true) : (l.filter fun x => p x && decide (x ≠ n)).length + 1 = (l.filter p).length := by
 induction l with
 | nil => cases hn
 | cons a l ih =>
  rw [List.nodup_cons] at hd
  rcases List.mem_cons.1 hn with e | g
  ·subst e
   have e1 : (l.filter fun x => p x && decide (x ≠ n)) = l.filter p := List.filter_congr fun x hx => by
    have : x ≠ n := fun e => hd.1 (e ▸ hx)
    simp [this]
   rw [List.filter_cons, List.filter_cons, if_pos hp, if_neg (by simp), e1]; rfl
  ·have hne : a ≠ n := fun e => hd.1 (e ▸ g)
   have := ih hd.2 g
   simp only [ne_eq] at this ⊢
   rw [List.filter_cons, List.filter_cons]
   by_cases hpa : p a = true
   ·simp only [hpa, hne, Bool.true_and, not_false_eq_true, decide_true, if_true, List.length_cons]; omega
   ·simp only [hpa, Bool.false_and, if_false, Bool.false_eq_true]; exact this
theorem BarLow.step {t u : Task} {G : List Pl} (h : BarLow t u G) (hV : Valid t) {m d : Nat} {n : Int} (hm : m < t.machines.length) (hd : d < t.days.toNat) (hn0 : 0 <= n) (hn : n < capT t m (t.first + (d : Int))) (hG : (((m : Int), t.first + (d : Int), n) : Pl) ∉ G) : BarLow t (Dw.low u m d) (((m : Int), t.first + (d : Int), n) :: G) := by
 have hmem : n.toNat ∈ freeN t (barL G) ((m : Int), t.first + (d : Int)) := mem_freeN.2 ⟨by show n.toNat < (capT t m (t.first + (d : Int))).toNat; omega, by
  show barL G ((m : Int), t.first + (d : Int), ((n.toNat : Nat) : Int)) = false
  rw [Int.toNat_of_nonneg hn0]; exact barL_ff.2 hG⟩
 have h1 := h.eq m d hm hd
 have hpos : 0 < (freeN t (barL G) ((m : Int), t.first + (d : Int))).length := List.length_pos_of_mem hmem
 have hm' : m < u.machines.length := by rw [h.low.len]; exact hm
 have hd' : d < (u.machines.getD m noMach).places.length := by have := h.low.pl m hm; omega
 refine ⟨h.low.low hV hm hd (by omega), fun m' d' hm2 hd2 => ?_⟩
 rw [capM_low hm' hd']
 by_cases hc : m' = m /\ d' = d
 ·obtain ⟨rfl, rfl⟩ := hc
  rw [if_pos ⟨rfl, rfl⟩, h1]
  have e := filter_rem (p := fun k => !barL G ((m' : Int), t.first + (d' : Int), (k : Int))) List.nodup_range (mem_freeN.1 hmem |>.1 |> List.mem_range.2) (by
   have := (mem_freeN.1 hmem).2
   simpa using this)
  have e2 : freeN t (barL (((m' : Int), t.first + (d' : Int), n) :: G)) ((m' : Int), t.first + (d' : Int)) = (List.range (capT t m' (t.first + (d' : Int))).toNat).filter fun (k : Nat) => (!barL G ((m' : Int), t.first + (d' : Int), (k : Int))) && decide (k ≠ n.toNat) := by
   refine List.filter_congr fun k _ => ?_
   show (!barL (((m' : Int), t.first + (d' : Int), n) :: G) ((m' : Int), t.first + (d' : Int), (k : Int))) = _
   have e3 : ((m' : Int), t.first + (d' : Int), (k : Int)) ∈ (((m' : Int), t.first + (d' : Int), n) : Pl) :: G ↔ k = n.toNat \/ ((m' : Int), t.first + (d' : Int), (k : Int)) ∈ G := by
    rw [List.mem_cons]
    refine or_congr ?_ Iff.rfl
    simp only [Prod.mk.injEq, true_and]
    omega
   rw [Bool.eq_iff_iff, Bool.not_eq_true', Bool.and_eq_true, Bool.not_eq_true', barL_ff, barL_ff, e3, decide_eq_true_eq, not_or]
   exact and_comm
  rw [e2]
  have e' : ((List.range (capT t m' (t.first + (d' : Int))).toNat).filter fun (k : Nat) => (!barL G ((m' : Int), t.first + (d' : Int), (k : Int))) && decide (k ≠ n.toNat)).length + 1 = (freeN t (barL G) ((m' : Int), t.first + (d' : Int))).length := e
  omega
 ·rw [if_neg hc, h.eq m' d' hm2 hd2]
  congr 2
  refine List.filter_congr fun k _ => ?_
  show (!barL G ((m' : Int), t.first + (d' : Int), (k : Int))) = !barL (((m : Int), t.first + (d : Int), n) :: G) ((m' : Int), t.first + (d' : Int), (k : Int))
  congr 1
  rw [Bool.eq_iff_iff, barL_iff, barL_iff, List.mem_cons]
  refine ⟨.inr, fun x => x.resolve_left fun e => hc ?_⟩
  simp only [Prod.mk.injEq] at e
  omega
def ltP (a b : Pl) : Prop := a.2.1 < b.2.1 \/ (a.2.1 = b.2.1 /\ (a.1 < b.1 \/ (a.1 = b.1 /\ a.2.2 < b.2.2)))
end Go.Dw
/- W3: contracts: Ints, SameTurns: lists compared. -/
namespace Go.Dw
open Go Go.Dx Go.Proofs
set_option maxRecDepth 100000
end Go.Dw
/- W4: contracts: SameTurns. -/
namespace Go.Dw
open Go Go.Dx Go.Proofs
set_option maxRecDepth 100000
noncomputable def turnK : KeyK Tryz.prog 59 (Int × Int × Int) where
 enc := fun p => .agg ⟨[i64 p.1, i64 p.2.1, i64 p.2.2]⟩
 ks := .struct [(.int .i64, 0), (.int .i64, 1), (.int .i64, 2)]
 hks := by kernel_rfl
 flat := fun _ => rfl
 ok := fun _ => rfl
 eq := placeK.eq
 same := fun a => by simp [Instr.sameBits]
end Go.Dw
/- W5: contracts: SameLate. -/
namespace Go.Dw
open Go Go.Dx Go.Proofs
set_option maxRecDepth 100000
end Go.Dw
/- W6: contracts: slices.Clone. -/
namespace Go.Dw
open Go Go.Dx Go.Proofs
set_option maxRecDepth 100000
section
variable {P : Program} {m : Mem} {h : Heap} {d : Option Tmp} {ty : TypeId} {pos : String} {af : Array Edge} {gu : Option (Nat × Bool)} {t tz el : TypeId} {x y : Operand}
end
end Go.Dw
/- W10: what Plan answers, with no program in sight. -/
namespace Go.Dw
open Go Go.Dx Go.Proofs Go.Mt
def sortI (l : List Int) : List Int := l.mergeSort fun a b => decide (a <= b)
def riskLe (t : Task) (a b : Nat) : Bool := decide (riskN t b < riskN t a \/ (riskN t a = riskN t b /\ a <= b))
def ordN (t : Task) : List Nat := (List.range t.reels.length).mergeSort (riskLe t)
noncomputable abbrev goT (t : Task) : List Nat × List (Nat × List Nat) := goN t (ordN t)
abbrev ints (l : List Nat) : List Int := l.map fun (r : Nat) => (r : Int)
noncomputable def keptI (t : Task) : List Int := sortI (ints (goT t).1)
noncomputable def keptS (t : Task) : List Nat := natsL (keptI t)
noncomputable def byOf (t : Task) (r : Nat) : List Nat := ((goT t).2.lookup r).getD []
noncomputable def lateN (t : Task) : List Nat := (List.range t.reels.length).filter fun (r : Nat) => !decide ((r : Int) ∈ keptI t)
noncomputable def latOf (t : Task) (r : Nat) : Lat := ⟨(r : Int), sortI (ints (byOf t r))⟩
noncomputable def lateL (t : Task) : List Lat := (lateN t).map (latOf t)
noncomputable def planS (t : Task) : List Turn × List Lat × Int := if errS t ≠ 0 then ([], [], errS t) else (turnsG t (keptS t), lateL t, 0)
theorem ints_nodup {l : List Nat} (h : l.Nodup) : (ints l).Nodup := map_nodup (fun a _ b _ e => by omega) h
end Go.Dw
/- W11: Plan leaves least, with no program in sight. -/
namespace Go.Dw
open Go Go.Dx Go.Proofs Go.Mt
def riskT (t : Task) (r : Nat) : Nat := (riskN t r).toNat
def totR (t : Task) : Nat := sumR (riskT t) (List.range t.reels.length)
abbrev reelsN (l : List Turn) : List Nat := natsL (l.map Turn.reel)
def cellOf (l : List Turn) (r : Nat) : Int × Int := match l.find? (fun y => decide (y.reel = (r : Int))) with
 | some x => (x.machine, x.day)
 | none => (0, 0)
theorem places_lt {t : Task} {bar : Pl -> Bool} {r : Nat} {p : Pl} (h : adjB t bar r p) : r < t.reels.length := by
 obtain ⟨m, d, n⟩ := p
 have h1 := (mem_placesL.1 h.1).1
 rcases Nat.lt_or_ge r t.reels.length with g | g
 ·exact g
 ·exfalso
  have e : reelAt t (r : Nat) = noReel := by unfold reelAt; rw [Int.toNat_natCast]; exact getD_out g
  rw [e] at h1; cases h1
def allPl (t : Task) : List Pl := (List.range t.reels.length).flatMap fun (r : Nat) => placesL t (r : Nat)
end Go.Dw
/- W12: late reels, by whom; plans that are proved, with no program in sight. -/
namespace Go.Dw
open Go Go.Dx Go.Proofs Go.Mt
end Go.Dw
/- W8: the contract of the reference's chosen. -/
namespace Go.Dw
open Go Go.Dx Go.Proofs Go.Mt
set_option maxRecDepth 100000
structure ByAt (h0 h : Heap) (n ob : Nat) (L : Nat -> Value) (G : Nat -> List Nat) : Prop where
 o : h.get ob = some (.cells ((List.range n).map L) 31 false)
 leaf : ∀ r, r < n -> FreshSl h0 h (L r) 3 1 ((G r).map fun (r : Nat) => i64 r) (G r).length
 linj : ∀ r r', r < n -> r' < n -> ∀ b, blkOf (L r) = some b -> blkOf (L r') = some b -> r = r'
 nr : h0.nx <= ob
theorem ByAt.ke {h0 h h' : Heap} {n ob : Nat} {L : Nat -> Value} {G : Nat -> List Nat} (a : ByAt h0 h n ob L G) (hk : ∀ b vs el op, (b = ob \/ ∃ r, r < n /\ blkOf (L r) = some b) -> h.get b = some (.cells vs el op) -> h'.get b = some (.cells vs el op)) : ByAt h0 h' n ob L G :=
 ⟨hk _ _ _ _ (.inl rfl) a.o, fun r hr => (a.leaf r hr).keep fun b o hb hg => by
  obtain ⟨⟨op, h1⟩, _⟩ := (a.leaf r hr).at3 hb
  rw [h1] at hg; cases hg
  exact hk _ _ _ _ (.inr ⟨r, hr, hb⟩) h1, a.linj, a.nr⟩
theorem ByAt.ext {h0 h h' : Heap} {n ob : Nat} {L : Nat -> Value} {G : Nat -> List Nat} (a : ByAt h0 h n ob L G) (he : Ext h h') : ByAt h0 h' n ob L G := a.ke fun _ _ _ _ _ hg => he.get hg
theorem ByAt.oc {h0 h : Heap} {n ob : Nat} {L : Nat -> Value} {G : Nat -> List Nat} (a : ByAt h0 h n ob L G) {r : Nat} (hr : r < n) : cellAt h ob (0 + r * 1) = some (L r) := cellAt_cells a.o (nth_range hr)
def updN {α : Type} (G : Nat -> α) (c : Nat) (x : α) : Nat -> α := fun c' => if c' = c then x else G c'
theorem updN_same {α : Type} (G : Nat -> α) (c : Nat) (x : α) : updN G c x c = x := by simp [updN]
theorem updN_other {α : Type} (G : Nat -> α) {c c' : Nat} (x : α) (h : c' ≠ c) : updN G c x c' = G c' := by simp [updN, h]
theorem ByAt.push {h0 h h1 h' : Heap} {n ob r x : Nat} {L : Nat -> Value} {G : Nat -> List Nat} {v : Value} (a : ByAt h0 h n ob L G) (hw : WF h) (hr : r < n) (hF : FreshSl h0 h1 v 3 1 (((G r).map fun (r : Nat) => i64 r) ++ [i64 (x : Nat)]) ((G r).length + 1)) (hK : Keep h h1 (blkOf (L r))) (hv : blkOf v = blkOf (L r) \/ ∃ b, blkOf v = some b /\ h.nx <= b)
  (hU : Upd h1 ob (.cells (((List.range n).map L).set r v) 31 false) h') : ByAt h0 h' n ob (updN L r v) (updN G r (G r ++ [x])) := by
 have hoo : h1.get ob = some (.cells ((List.range n).map L) 31 false) := hK _ _ (fun e => by
  obtain ⟨⟨op0, hg⟩, _⟩ := (a.leaf r hr).at3 e
  exact absurd (cells_el hg a.o) (by decide)) a.o
 have hlt : ∀ r' b, r' < n -> blkOf (L r') = some b -> b < h.nx := fun r' b hr' hb => by
  obtain ⟨⟨op0, hg⟩, _⟩ := (a.leaf r' hr').at3 hb
  exact hw _ _ hg
 have hleaf : ∀ r', r' < n -> FreshSl h0 h1 (updN L r v r') 3 1 ((updN G r (G r ++ [x]) r').map fun (r : Nat) => i64 r) (updN G r (G r ++ [x]) r').length := fun r' hr' => by
  by_cases hc : r' = r
  ·rw [hc, updN_same, updN_same, List.map_append, List.length_append]; exact hF
  ·rw [updN_other _ _ hc, updN_other _ _ hc]
   exact (a.leaf r' hr').keep fun b o hb hg => hK _ _ (fun e => hc (a.linj r' r hr' hr b hb e)) hg
 refine ⟨?_, fun r' hr' => (hleaf r' hr').keep fun b o hb hg => hU.get (fun e => ?_) hg, fun r1 r2 h1' h2' b hb1 hb2 => ?_, a.nr⟩
 ·rw [hU.at', range_set _ _ hr]
  rfl
 ·obtain ⟨⟨op0, h2⟩, _⟩ := (hleaf r' hr').at3 hb
  exact absurd (cells_el hoo (e ▸ h2)) (by decide)
 ·by_cases e1 : r1 = r <;> by_cases e2 : r2 = r
  ·omega
  ·rw [e1, updN_same] at hb1
   rw [updN_other _ _ e2] at hb2
   rcases hv with e | ⟨b', e, hb'⟩
   ·rw [e] at hb1; exact absurd (a.linj r2 r h2' hr b hb2 hb1) e2
   ·rw [e] at hb1; cases hb1
    have := hlt r2 _ h2' hb2; omega
  ·rw [e2, updN_same] at hb2
   rw [updN_other _ _ e1] at hb1
   rcases hv with e | ⟨b', e, hb'⟩
   ·rw [e] at hb2; exact absurd (a.linj r1 r h1' hr b hb1 hb2) e1
   ·rw [e] at hb2; cases hb2
    have := hlt r1 _ h1' hb1; omega
  ·rw [updN_other _ _ e1] at hb1
   rw [updN_other _ _ e2] at hb2
   exact a.linj r1 r2 h1' h2' b hb1 hb2
theorem natsL_cast (s : List Nat) : natsL (s.map fun (r : Nat) => (r : Int)) = s := by
 unfold natsL
 rw [List.map_map]
 conv => rhs; rw [<- List.map_id s]
 exact List.map_congr_left fun x _ => Int.toNat_natCast x
def byI (h0 : Heap) (n ob : Nat) (L : Nat -> Value) (G : Nat -> List Nat) : It where
 S := fun c => c = ob \/ ∃ r, r < n /\ blkOf (L r) = some c
 p := fun h => ByAt h0 h n ob L G
 loc := fun hk a => a.ke fun b _ _ _ hb hg => hk b _ hb hg
 ex := fun {h c} a hc => by
  rcases hc with rfl | ⟨r, hr, hb⟩
  ·exact ⟨_, a.o⟩
  ·obtain ⟨op, h1⟩ := (a.leaf r hr).got hb
   exact ⟨_, h1⟩
theorem ByAt.oo {h0 h h1 : Heap} {n ob r : Nat} {L : Nat -> Value} {G : Nat -> List Nat} (a : ByAt h0 h n ob L G) (hr : r < n) (hK : Keep h h1 (blkOf (L r))) : h1.get ob = some (.cells ((List.range n).map L) 31 false) := hK _ _ (fun e => by
 obtain ⟨op0, hg⟩ := (a.leaf r hr).got e
 exact absurd (cells_el hg a.o) (by decide)) a.o
theorem cut_flat {α : Type} {f : α -> List Value} {k : Nat} : ∀ {P : List α} {i : Nat} (hi : i < P.length), (∀ p ∈ P, (f p).length = k) -> cut (P.flatMap f) (i * k) k = some (f P[i])
 | p :: P, 0, _, h => by
  have hp := h p List.mem_cons_self
  rw [List.flatMap_cons, Nat.zero_mul, cut_le (by rw [List.length_append]; omega)]
  simp only [List.drop_zero, List.getElem_cons_zero, Option.some.injEq]
  rw [<- hp]
  exact List.take_left
 | p :: P, i + 1, hi, h => by
  have hp := h p List.mem_cons_self
  have ih := cut_flat (f := f) (k := k) (P := P) (i := i) (by simpa using hi) fun q hq => h q (List.mem_cons_of_mem _ hq)
  rw [List.flatMap_cons, List.getElem_cons_succ, <- ih]
  have hle : i * k + k <= (P.flatMap f).length := by
   have hl : (P.flatMap f).length = P.length * k := by
    have : ∀ {Q : List α}, (∀ p ∈ Q, (f p).length = k) -> (Q.flatMap f).length = Q.length * k := by
     intro Q hQ
     induction Q with
     | nil => simp
     | cons q Q ihQ => rw [List.flatMap_cons, List.length_append, hQ q List.mem_cons_self, ihQ fun x hx => hQ x (List.mem_cons_of_mem _ hx), List.length_cons, Nat.succ_mul, Nat.add_comm]
    exact this fun q hq => h q (List.mem_cons_of_mem _ hq)
   have : i + 1 <= P.length := by
    have : i + 1 < (p :: P).length := hi
    rw [List.length_cons] at this; omega
   rw [hl, <- Nat.succ_mul]
   exact Nat.mul_le_mul_right k this
  rw [cut_le hle, cut_le (by rw [List.length_append, hp, Nat.succ_mul]; omega), Nat.succ_mul]
  congr 2
  rw [List.drop_append, List.drop_eq_nil_of_le (by omega), hp]
  simp
def lvI (h0 : Heap) (P : List (Lat × Value)) : It where
 S := fun c => ∃ p ∈ P, blkOf p.2 = some c
 p := fun h => ∀ p ∈ P, FreshSl h0 h p.2 3 1 (p.1.by'.map i64) p.1.by'.length
 loc := fun hk a p hp => (a p hp).keep fun b o hb hg => hk b o ⟨p, hp, hb⟩ hg
 ex := fun {h c} a hc => by
  obtain ⟨p, hp, hb⟩ := hc
  obtain ⟨op, h1⟩ := (a p hp).got hb
  exact ⟨_, h1⟩
def latRow (p : Lat × Value) : List Value := [i64 p.1.reel, p.2]
open Classical in
noncomputable def byK (t : Task) (kept : List Nat) (r k : Nat) : List Nat := (List.range k).flatMap fun i => if fitN t (kept.take i ++ kept.drop (i + 1) ++ [r]) then [kept.getD i 0] else []
end Go.Dw
/- W15: the contract of the reference's turns. -/
namespace Go.Dw
open Go Go.Dx Go.Proofs Go.Mt
set_option maxRecDepth 100000
def mRow (p : Mach × Value) : List Value := [str p.1.name, p.2]
def lfI (h0 : Heap) (p : Mach × Value) : It := slI h0 p.2 3 1 (p.1.places.map i64) p.1.places.length
def uOf (t : Task) (X : List (Mach × Value)) : Task := ⟨t.first, t.days, X.map Prod.fst, t.reels⟩
def lowX (X : List (Mach × Value)) (m d : Nat) : List (Mach × Value) := X.modify m fun p => (lowP d p.1, p.2)
def tRow (x : Turn) : List Value := [i64 x.reel, i64 x.machine, i64 x.day]
def TurnSt (t : Task) (X : List (Mach × Value)) (T : List Turn) (r : Nat) (rest : List Nat) (before : Nat -> Nat -> Prop) (dn : Bool) (X' : List (Mach × Value)) (T' : List Turn) : Prop :=
 (dn = false /\ X' = X /\ T' = T /\ ∀ d m, before d m -> okC (uOf t X) r rest (d, m) = false) \/ (dn = true /\ ∃ d m, turnC (uOf t X) r rest = some (d, m) /\ X' = lowX X m d /\ T' = T ++ [⟨r, m, t.first + d⟩])
end Go.Dw
/- W16: the contract of the reference's Plan. -/
namespace Go.Dw
open Go Go.Dx Go.Proofs Go.Mt
set_option maxRecDepth 100000
theorem ints_nats {l : List Int} (h : ∀ x ∈ l, 0 <= x) : ints (natsL l) = l := by
 unfold ints natsL
 rw [List.map_map]
 conv => rhs; rw [<- List.map_id l]
 exact List.map_congr_left fun x hx => Int.toNat_of_nonneg (h x hx)
def PlanV (t : Task) (h : Heap) (v : Value) : Prop := ∃ a al, v = .tuple ⟨[.slice a (planS t).1.length (planS t).1.length, .slice al (planS t).2.1.length (planS t).2.1.length, i64 (planS t).2.2]⟩ /\ TurnsAt h a (planS t).1 /\ LatsAt h al (planS t).2.1
end Go.Dw
/- W13: more places, a further reel, with no program in sight. -/
namespace Go.Dw
open Go Go.Dx Go.Proofs Go.Mt
def namesOk : List (List UInt8) -> List (List UInt8) -> Prop
 | _, [] => True
 | b, s :: l => nameErr s b = 0 /\ namesOk (b ++ [s]) l
theorem goM_iff {t : Task} : ∀ {l : List Mach} {i : Nat} {b : List (List UInt8)}, goM t i b l = none ↔ namesOk b (l.map Mach.name) /\ ∀ m ∈ l, machErr t m = 0
 | [], _, _ => by simp [goM, namesOk]
 | m :: l, i, b => by
  unfold goM
  split
  ·rename_i h
   simp only [reduceCtorEq, false_iff]
   exact fun g => h g.1.1
  ·rename_i h1
   split
   ·rename_i h
    simp only [reduceCtorEq, false_iff]
    exact fun g => h (g.2 m List.mem_cons_self)
   ·rename_i h2
    rw [goM_iff]
    constructor
    ·rintro ⟨a, c⟩
     exact ⟨⟨Classical.not_not.1 h1, a⟩, fun x hx => by
      rcases List.mem_cons.1 hx with e | g
      ·rw [e]; exact Classical.not_not.1 h2
      ·exact c x g⟩
    ·rintro ⟨a, c⟩
     exact ⟨a.2, fun x hx => c x (List.mem_cons_of_mem _ hx)⟩
theorem goR_iff {t : Task} : ∀ {l : List Reel} {i : Nat} {b : List (List UInt8)}, goR t i b l = none ↔ namesOk b (l.map Reel.name) /\ ∀ m ∈ l, reelErr t m = 0
 | [], _, _ => by simp [goR, namesOk]
 | m :: l, i, b => by
  unfold goR
  split
  ·rename_i h
   simp only [reduceCtorEq, false_iff]
   exact fun g => h g.1.1
  ·rename_i h1
   split
   ·rename_i h
    simp only [reduceCtorEq, false_iff]
    exact fun g => h (g.2 m List.mem_cons_self)
   ·rename_i h2
    rw [goR_iff]
    constructor
    ·rintro ⟨a, c⟩
     exact ⟨⟨Classical.not_not.1 h1, a⟩, fun x hx => by
      rcases List.mem_cons.1 hx with e | g
      ·rw [e]; exact Classical.not_not.1 h2
      ·exact c x g⟩
    ·rintro ⟨a, c⟩
     exact ⟨a.2, fun x hx => c x (List.mem_cons_of_mem _ hx)⟩
structure NoErr (t : Task) : Prop where
 first : 0 <= t.first /\ t.first <= 80000
 days : 1 <= t.days /\ t.days <= 60
 last : t.first + t.days - 1 <= 80000
 ms : 1 <= t.machines.length /\ t.machines.length <= 4
 rs : t.reels.length <= 24
 mn : namesOk [] (t.machines.map Mach.name)
 me : ∀ m ∈ t.machines, machErr t m = 0
 rn : namesOk [] (t.reels.map Reel.name)
 re : ∀ r ∈ t.reels, reelErr t r = 0
theorem errS_iff {t : Task} : errS t = 0 ↔ NoErr t := by
 unfold errS checkS
 constructor
 ·intro h
  split at h
  ·cases h
  ·rename_i h1
   split at h
   ·cases h
   ·rename_i h2
    split at h
    ·rename_i x hx; exact absurd h (goM_e hx)
    ·rename_i hM
     split at h
     ·rename_i x hx; exact absurd h (goR_e hx)
     ·rename_i hR
      exact ⟨by omega, by omega, by omega, by omega, by omega, (goM_iff.1 hM).1, (goM_iff.1 hM).2, (goR_iff.1 hR).1, (goR_iff.1 hR).2⟩
 ·intro h
  have h1 := h.first
  have h2 := h.days
  have h3 := h.last
  have h4 := h.ms
  have h5 := h.rs
  rw [if_neg (by omega), if_neg (by omega), goM_iff.2 ⟨h.mn, h.me⟩, goR_iff.2 ⟨h.rn, h.re⟩]
def MoreM (x y : Mach) : Prop := y.name = x.name /\ y.places.length = x.places.length /\ ∀ d, x.places.getD d 0 <= y.places.getD d 0 /\ (d < x.places.length -> 0 <= y.places.getD d 0 /\ y.places.getD d 0 <= 20)
def MoreR (t : Task) (x y : Reel) : Prop := y.name = x.name /\ y.machines = x.machines /\ y.risk = x.risk /\ y.ready <= x.ready /\ x.due <= y.due /\ t.first <= y.ready /\ y.due <= t.first + t.days - 1
structure MoreT (t u : Task) : Prop where
 first : u.first = t.first
 days : u.days = t.days
 ml : u.machines.length = t.machines.length
 rl : u.reels.length = t.reels.length
 ms : ∀ i (h : i < t.machines.length) (h' : i < u.machines.length), MoreM t.machines[i] u.machines[i]
 rs : ∀ i (h : i < t.reels.length) (h' : i < u.reels.length), MoreR t t.reels[i] u.reels[i]
theorem MoreT.fit {t u : Task} (h : MoreT t u) (hE : NoErr t) {K : List Nat} (hK : K.Nodup) (hf : fitN t K) : fitN u K := by
 have hV := valid_of (errS_iff.2 hE)
 have hl : ∀ r ∈ K, r < t.reels.length := by
  obtain ⟨f, h1, _⟩ := hf
  exact fun r hr => places_lt (h1 r hr)
 rw [fitN_cells hK] at hf ⊢
 refine fitC_mono (fun r hr c hc => ?_) (fun r hr c hc => ?_) hf
 ·obtain ⟨_, r2, _, r4, r5, _⟩ := h.rs r (hl r hr) (by rw [h.rl]; exact hl r hr)
  unfold adjM at hc ⊢
  rw [reelAt_nat (hl r hr)] at hc
  rw [reelAt_nat (by rw [h.rl]; exact hl r hr), r2]
  exact ⟨hc.1, by omega, by omega⟩
 ·obtain ⟨m, d⟩ := c
  obtain ⟨m', d', rfl, rfl, hm, hd⟩ := adjM_cell hV (hl r hr) hc
  show (capT t (m' : Int) (t.first + (d' : Int))).toNat <= (capT u (m' : Int) (t.first + (d' : Int))).toNat
  have e := capT_M (u := u) (m := m') (d := d')
  rw [h.first] at e
  rw [capT_M, e]
  have h1 := ((h.ms m' hm (by rw [h.ml]; exact hm)).2.2 d').1
  unfold capM
  rw [List.getD_eq_getElem?_getD (l := t.machines), List.getElem?_eq_getElem hm, List.getD_eq_getElem?_getD (l := u.machines), List.getElem?_eq_getElem (by rw [h.ml]; exact hm)]
  simp only [Option.getD_some]
  omega
theorem MoreT.risk {t u : Task} (h : MoreT t u) {r : Nat} (hr : r < t.reels.length) : riskT u r = riskT t r := by
 unfold riskT riskN
 rw [reelAt_nat hr, reelAt_nat (by rw [h.rl]; exact hr), (h.rs r hr (by rw [h.rl]; exact hr)).2.2.1]
def plus (t : Task) (x : Reel) : Task := ⟨t.first, t.days, t.machines, t.reels ++ [x]⟩
section
variable {t : Task} {x : Reel}
end
end Go.Dw
/- W14: without a late reel all else is the same, with no program in sight. -/
namespace Go.Dw
open Go Go.Dx Go.Proofs Go.Mt
def up (n k : Nat) : Nat := if k < n then k else k + 1
def dn (n r : Nat) : Nat := if r < n then r else r - 1
theorem dn_up (n k : Nat) : dn n (up n k) = k := by
 unfold dn up
 by_cases h : k < n
 ·rw [if_pos h, if_pos h]
 ·rw [if_neg h, if_neg (by omega)]; omega
structure Less (t u : Task) (n : Nat) : Prop where
 first : u.first = t.first
 days : u.days = t.days
 ms : u.machines = t.machines
 lt : n < t.reels.length
 len : u.reels.length + 1 = t.reels.length
 at' : ∀ k, k < u.reels.length -> reelAt u (k : Nat) = reelAt t (up n k : Nat)
section
variable {t u : Task} {n : Nat}
theorem Less.risk (h : Less t u n) {k : Nat} (hk : k < u.reels.length) : riskN u k = riskN t (up n k) := by unfold riskN; rw [h.at' k hk]
theorem fit_relabel {P : Type} {adj adj' : Nat -> P -> Prop} {g g' : Nat -> Nat} (hg : ∀ k, g' (g k) = k) {K : List Nat} (ha : ∀ k ∈ K, ∀ p, adj' k p ↔ adj (g k) p) : Fit adj' K ↔ Fit adj (K.map g) := by
 constructor
 ·rintro ⟨f, h1, h2⟩
  refine ⟨fun r => f (g' r), fun r hr => ?_, fun r hr s hs e => ?_⟩
  ·obtain ⟨k, hk, rfl⟩ := List.mem_map.1 hr
   show adj (g k) (f (g' (g k)))
   rw [hg]; exact (ha k hk _).1 (h1 k hk)
  ·obtain ⟨k, hk, rfl⟩ := List.mem_map.1 hr
   obtain ⟨j, hj, rfl⟩ := List.mem_map.1 hs
   simp only [hg] at e
   rw [h2 k hk j hj e]
 ·rintro ⟨f, h1, h2⟩
  refine ⟨fun k => f (g k), fun k hk => (ha k hk _).2 (h1 _ (List.mem_map.2 ⟨k, hk, rfl⟩)), fun k hk j hj e => ?_⟩
  have := h2 _ (List.mem_map.2 ⟨k, hk, rfl⟩) _ (List.mem_map.2 ⟨j, hj, rfl⟩) e
  rw [<- hg k, this, hg]
theorem Less.fit (h : Less t u n) {K : List Nat} (hl : ∀ k ∈ K, k < u.reels.length) : fitN u K ↔ fitN t (K.map (up n)) := by
 refine fit_relabel (g' := dn n) (dn_up n) fun k hk p => ?_
 obtain ⟨m, d, j⟩ := p
 simp only [adjB, mem_placesL]
 rw [h.at' k (hl k hk)]
 unfold capT
 rw [h.ms, h.first]
def upP (n : Nat) (p : Nat × List Nat) : Nat × List Nat := (up n p.1, p.2.map (up n))
abbrev upI (n : Nat) (x : Int) : Int := ((up n x.toNat : Nat) : Int)
theorem Less.low (h : Less t u n) (m d : Nat) : Less (low t m d) (low u m d) n := ⟨h.first, h.days, by show u.machines.modify m (lowP d) = t.machines.modify m (lowP d); rw [h.ms], h.lt, h.len, h.at'⟩
def dnT (n : Nat) (x : Turn) : Turn := ⟨if (n : Int) < x.reel then x.reel - 1 else x.reel, x.machine, x.day⟩
def lessL (n : Int) (l : List Int) : List Int := l.flatMap fun x => if x < n then [x] else if n < x then [x - 1] else []
def dnL (n : Nat) (x : Lat) : Lat := ⟨if (n : Int) < x.reel then x.reel - 1 else x.reel, lessL n x.by'⟩
end
end Go.Dw
