/- W8: the contract of the reference's chosen. -/
import Derived.Test.YtcjmpdpgfmjcgaaGreatDoorEG2
import Derived.Test.YtcjmpdpgfmjcgaaGreatDoorEG15
import Derived.Test.YtcjmpdpgfmjcgaaGreatDoorEG13
import Derived.Test.YtcjmpdpgfmjcgaaGreatDoorEG16
namespace Go.Dw
open Go Go.Dx Go.Proofs Go.Mt
set_option maxRecDepth 100000
/-- For each reel a list of the function's own. -/
structure ByAt (h0 h : Heap) (n ob : Nat) (L : Nat → Value) (G : Nat → List Nat) : Prop where
  o : h.get ob = some (.cells ((List.range n).map L) 31 false)
  leaf : ∀ r, r < n → FreshSl h0 h (L r) 3 1 ((G r).map fun (r : Nat) => i64 r) (G r).length
  linj : ∀ r r', r < n → r' < n → ∀ b, blkOf (L r) = some b → blkOf (L r') = some b → r = r'
  nr : h0.nx ≤ ob
theorem ByAt.ke {h0 h h' : Heap} {n ob : Nat} {L : Nat → Value} {G : Nat → List Nat} (a : ByAt h0 h n ob L G) (hk : ∀ b vs el op, (b = ob ∨ ∃ r, r < n ∧ blkOf (L r) = some b) → h.get b = some (.cells vs el op) → h'.get b = some (.cells vs el op)) : ByAt h0 h' n ob L G :=
  ⟨hk _ _ _ _ (.inl rfl) a.o, fun r hr => (a.leaf r hr).keep fun b o hb hg => by
    obtain ⟨⟨op, h1⟩, _⟩ := (a.leaf r hr).at3 hb
    rw [h1] at hg; cases hg
    exact hk _ _ _ _ (.inr ⟨r, hr, hb⟩) h1, a.linj, a.nr⟩
theorem ByAt.ext {h0 h h' : Heap} {n ob : Nat} {L : Nat → Value} {G : Nat → List Nat} (a : ByAt h0 h n ob L G) (he : Ext h h') : ByAt h0 h' n ob L G := a.ke fun _ _ _ _ _ hg => he.get hg
def updN {α : Type} (G : Nat → α) (c : Nat) (x : α) : Nat → α := fun c' => if c' = c then x else G c'
theorem updN_same {α : Type} (G : Nat → α) (c : Nat) (x : α) : updN G c x c = x := by simp [updN]
theorem updN_other {α : Type} (G : Nat → α) {c c' : Nat} (x : α) (h : c' ≠ c) : updN G c x c' = G c' := by simp [updN, h]
/-- One more in the list of a reel. -/
theorem ByAt.push {h0 h h1 h' : Heap} {n ob r x : Nat} {L : Nat → Value} {G : Nat → List Nat} {v : Value} (a : ByAt h0 h n ob L G) (hw : WF h) (hr : r < n) (hF : FreshSl h0 h1 v 3 1 (((G r).map fun (r : Nat) => i64 r) ++ [i64 (x : Nat)]) ((G r).length + 1)) (hK : Keep h h1 (blkOf (L r))) (hv : blkOf v = blkOf (L r) ∨ ∃ b, blkOf v = some b ∧ h.nx ≤ b)
    (hU : Upd h1 ob (.cells (((List.range n).map L).set r v) 31 false) h') : ByAt h0 h' n ob (updN L r v) (updN G r (G r ++ [x])) := by
  have hoo : h1.get ob = some (.cells ((List.range n).map L) 31 false) := hK _ _ (fun e => by
    obtain ⟨⟨op0, hg⟩, _⟩ := (a.leaf r hr).at3 e
    exact absurd (cells_el hg a.o) (by decide)) a.o
  have hlt : ∀ r' b, r' < n → blkOf (L r') = some b → b < h.nx := fun r' b hr' hb => by
    obtain ⟨⟨op0, hg⟩, _⟩ := (a.leaf r' hr').at3 hb
    exact hw _ _ hg
  have hleaf : ∀ r', r' < n → FreshSl h0 h1 (updN L r v r') 3 1 ((updN G r (G r ++ [x]) r').map fun (r : Nat) => i64 r) (updN G r (G r ++ [x]) r').length := fun r' hr' => by
    by_cases hc : r' = r
    · rw [hc, updN_same, updN_same, List.map_append, List.length_append]; exact hF
    · rw [updN_other _ _ hc, updN_other _ _ hc]
      exact (a.leaf r' hr').keep fun b o hb hg => hK _ _ (fun e => hc (a.linj r' r hr' hr b hb e)) hg
  refine ⟨?_, fun r' hr' => (hleaf r' hr').keep fun b o hb hg => hU.get (fun e => ?_) hg, fun r1 r2 h1' h2' b hb1 hb2 => ?_, a.nr⟩
  · rw [hU.at', range_set _ _ hr]
    rfl
  · obtain ⟨⟨op0, h2⟩, _⟩ := (hleaf r' hr').at3 hb
    exact absurd (cells_el hoo (e ▸ h2)) (by decide)
  · by_cases e1 : r1 = r <;> by_cases e2 : r2 = r
    · omega
    · rw [e1, updN_same] at hb1
      rw [updN_other _ _ e2] at hb2
      rcases hv with e | ⟨b', e, hb'⟩
      · rw [e] at hb1; exact absurd (a.linj r2 r h2' hr b hb2 hb1) e2
      · rw [e] at hb1; cases hb1
        have := hlt r2 _ h2' hb2; omega
    · rw [e2, updN_same] at hb2
      rw [updN_other _ _ e1] at hb1
      rcases hv with e | ⟨b', e, hb'⟩
      · rw [e] at hb2; exact absurd (a.linj r1 r h1' hr b hb1 hb2) e1
      · rw [e] at hb2; cases hb2
        have := hlt r1 _ h1' hb1; omega
    · rw [updN_other _ _ e1] at hb1
      rw [updN_other _ _ e2] at hb2
      exact a.linj r1 r2 h1' h2' b hb1 hb2
theorem natsL_cast (s : List Nat) : natsL (s.map fun (r : Nat) => (r : Int)) = s := by
  unfold natsL
  rw [List.map_map]
  conv => rhs; rw [← List.map_id s]
  exact List.map_congr_left fun x _ => Int.toNat_natCast x
/-- .. as a thing of the function's own. -/
def byI (h0 : Heap) (n ob : Nat) (L : Nat → Value) (G : Nat → List Nat) : It where
  S := fun c => c = ob ∨ ∃ r, r < n ∧ blkOf (L r) = some c
  p := fun h => ByAt h0 h n ob L G
  loc := fun hk a => a.ke fun b _ _ _ hb hg => hk b _ hb hg
  ex := fun {h c} a hc => by
    rcases hc with rfl | ⟨r, hr, hb⟩
    · exact ⟨_, a.o⟩
    · obtain ⟨op, h1⟩ := (a.leaf r hr).got hb
      exact ⟨_, h1⟩
/-- Rows of cells, one behind another. -/
theorem cut_flat {α : Type} {f : α → List Value} {k : Nat} : ∀ {P : List α} {i : Nat} (hi : i < P.length), (∀ p ∈ P, (f p).length = k) → cut (P.flatMap f) (i * k) k = some (f P[i])
  | p :: P, 0, _, h => by
    have hp := h p List.mem_cons_self
    rw [List.flatMap_cons, Nat.zero_mul, cut_le (by rw [List.length_append]; omega)]
    simp only [List.drop_zero, List.getElem_cons_zero, Option.some.injEq]
    rw [← hp]
    exact List.take_left
  | p :: P, i + 1, hi, h => by
    have hp := h p List.mem_cons_self
    have ih := cut_flat (f := f) (k := k) (P := P) (i := i) (by simpa using hi) fun q hq => h q (List.mem_cons_of_mem _ hq)
    rw [List.flatMap_cons, List.getElem_cons_succ, ← ih]
    have hle : i * k + k ≤ (P.flatMap f).length := by
      have hl : (P.flatMap f).length = P.length * k := by
        have : ∀ {Q : List α}, (∀ p ∈ Q, (f p).length = k) → (Q.flatMap f).length = Q.length * k := by
          intro Q hQ
          induction Q with
          | nil => simp
          | cons q Q ihQ => rw [List.flatMap_cons, List.length_append, hQ q List.mem_cons_self, ihQ fun x hx => hQ x (List.mem_cons_of_mem _ hx), List.length_cons, Nat.succ_mul, Nat.add_comm]
        exact this fun q hq => h q (List.mem_cons_of_mem _ hq)
      have : i + 1 ≤ P.length := by
        have : i + 1 < (p :: P).length := hi
        rw [List.length_cons] at this; omega
      rw [hl, ← Nat.succ_mul]
      exact Nat.mul_le_mul_right k this
    rw [cut_le hle, cut_le (by rw [List.length_append, hp, Nat.succ_mul]; omega), Nat.succ_mul]
    congr 2
    rw [List.drop_append, List.drop_eq_nil_of_le (by omega), hp]
    simp
/-- Lists of numbers that lie apart from one another, and stay. -/
def lvI (h0 : Heap) (P : List (Lat × Value)) : It where
  S := fun c => ∃ p ∈ P, blkOf p.2 = some c
  p := fun h => ∀ p ∈ P, FreshSl h0 h p.2 3 1 (p.1.by'.map i64) p.1.by'.length
  loc := fun hk a p hp => (a p hp).keep fun b o hb hg => hk b o ⟨p, hp, hb⟩ hg
  ex := fun {h c} a hc => by
    obtain ⟨p, hp, hb⟩ := hc
    obtain ⟨op, h1⟩ := (a p hp).got hb
    exact ⟨_, h1⟩
def latRow (p : Lat × Value) : List Value := [i64 p.1.reel, p.2]
theorem ints_len' (l : List Nat) : (ints l).length = l.length := List.length_map _
/-- Late reels in memory. -/
theorem lats_of {h0 h : Heap} {v : Value} {P : List (Lat × Value)} (hF : FreshSl h0 h v 61 2 (P.flatMap latRow) P.length) (hB : (lvI h0 P).p h) : ∃ a, v = .slice a P.length P.length ∧ LatsAt h a (P.map Prod.fst) := by
  rcases hF with ⟨rfl, _, hn⟩ | ⟨b, sp, op, rfl, hg, _⟩
  · refine ⟨none, by rw [hn], fun i hi => ?_⟩
    rw [List.length_map, hn] at hi; omega
  · refine ⟨_, rfl, fun i hi => ⟨b, 0, sp, rfl, _, rowAt_cells hg (by rw [Nat.zero_add]; exact cut_flat (by simpa using hi) fun _ _ => rfl), ?_⟩⟩
    have hi' : i < P.length := by simpa using hi
    obtain ⟨a, e, _, hs⟩ := (hB P[i] (List.getElem_mem hi')).srcAt
    rw [List.getElem_map]
    exact ⟨a, _, by unfold latRow; rw [e], hs⟩
open Classical in
/-- Of the first k kept ones those without which a reel fits. -/
noncomputable def byK (t : Task) (kept : List Nat) (r k : Nat) : List Nat := (List.range k).flatMap fun i => if fitN t (kept.take i ++ kept.drop (i + 1) ++ [r]) then [kept.getD i 0] else []
theorem byK_len (t : Task) (kept : List Nat) (r k : Nat) : (byK t kept r k).length ≤ k := by
  induction k with
  | zero => exact Nat.le_refl _
  | succ k ih =>
    unfold byK at ih ⊢
    rw [List.range_succ, List.flatMap_append, List.length_append, List.flatMap_cons, List.flatMap_nil, List.append_nil]
    refine Nat.add_le_add ih ?_
    split
    · exact Nat.le_refl _
    · exact Nat.zero_le _
open Classical in
theorem byK_succ {t : Task} {kept : List Nat} {r k : Nat} (hk : k < kept.length) : byK t kept r (k + 1) = byK t kept r k ++ if fitN t (kept.take k ++ kept.drop (k + 1) ++ [r]) then [kept[k]] else [] := by
  unfold byK
  rw [List.range_succ, List.flatMap_append, List.flatMap_cons, List.flatMap_nil, List.append_nil, List.getD_eq_getElem?_getD, List.getElem?_eq_getElem hk, Option.getD_some]
end Go.Dw
/- W15: the contract of the reference's turns. -/
namespace Go.Dw
open Go Go.Dx Go.Proofs Go.Mt
set_option maxRecDepth 100000
/-- Machines whose places are the function's own. -/
def mRow (p : Mach × Value) : List Value := [str p.1.name, p.2]
def lfI (h0 : Heap) (p : Mach × Value) : It := slI h0 p.2 3 1 (p.1.places.map i64) p.1.places.length
/-- The workshop of these machines. -/
def uOf (t : Task) (X : List (Mach × Value)) : Task := ⟨t.first, t.days, X.map Prod.fst, t.reels⟩
def lowX (X : List (Mach × Value)) (m d : Nat) : List (Mach × Value) := X.modify m fun p => (lowP d p.1, p.2)
def tRow (x : Turn) : List Value := [i64 x.reel, i64 x.machine, i64 x.day]
theorem turns_of {h0 h : Heap} {v : Value} {T : List Turn} (hF : FreshSl h0 h v 59 3 (T.flatMap tRow) T.length) : ∃ a, v = .slice a T.length T.length ∧ TurnsAt h a T := by
  rcases hF with ⟨rfl, _, hn⟩ | ⟨b, sp, op, rfl, hg, _⟩
  · exact ⟨none, by rw [hn], fun i hi => by omega⟩
  · exact ⟨_, rfl, fun i hi => ⟨b, 0, sp, rfl, _, rowAt_cells hg (by rw [Nat.zero_add]; exact cut_flat hi fun _ _ => rfl), rfl⟩⟩
/-- What a search for a turn has come to. -/
def TurnSt (t : Task) (X : List (Mach × Value)) (T : List Turn) (r : Nat) (rest : List Nat) (before : Nat → Nat → Prop) (dn : Bool) (X' : List (Mach × Value)) (T' : List Turn) : Prop :=
  (dn = false ∧ X' = X ∧ T' = T ∧ ∀ d m, before d m → okC (uOf t X) r rest (d, m) = false) ∨ (dn = true ∧ ∃ d m, turnC (uOf t X) r rest = some (d, m) ∧ X' = lowX X m d ∧ T' = T ++ [⟨r, m, t.first + d⟩])
end Go.Dw
/- W16: the contract of the reference's Plan. -/
namespace Go.Dw
open Go Go.Dx Go.Proofs Go.Mt
set_option maxRecDepth 100000
theorem ints_nats {l : List Int} (h : ∀ x ∈ l, 0 ≤ x) : ints (natsL l) = l := by
  unfold ints natsL
  rw [List.map_map]
  conv => rhs; rw [← List.map_id l]
  exact List.map_congr_left fun x hx => Int.toNat_of_nonneg (h x hx)
theorem keptI_ints (t : Task) : ints (keptS t) = keptI t := ints_nats fun _ h => (keptI_in h).1
/-- What Plan hands out. -/
def PlanV (t : Task) (h : Heap) (v : Value) : Prop := ∃ a al, v = .tuple ⟨[.slice a (planS t).1.length (planS t).1.length, .slice al (planS t).2.1.length (planS t).2.1.length, i64 (planS t).2.2]⟩ ∧ TurnsAt h a (planS t).1 ∧ LatsAt h al (planS t).2.1
theorem planS_bad {t : Task} (h : errS t ≠ 0) : planS t = ([], [], errS t) := if_pos h
theorem planS_ok {t : Task} (h : errS t = 0) : planS t = (turnsG t (keptS t), lateL t, 0) := if_neg fun x => x h
end Go.Dw
