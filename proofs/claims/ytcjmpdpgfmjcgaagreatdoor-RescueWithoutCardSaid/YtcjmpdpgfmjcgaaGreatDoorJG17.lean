/- W8: the contract of the reference's chosen. -/
import Derived.Test.YtcjmpdpgfmjcgaaGreatDoorJG2
import Derived.Test.YtcjmpdpgfmjcgaaGreatDoorJG15
import Derived.Test.YtcjmpdpgfmjcgaaGreatDoorJG13
import Derived.Test.YtcjmpdpgfmjcgaaGreatDoorJG16
namespace Go.Dw
open Go Go.Dx Go.Proofs Go.Mt
set_option maxRecDepth 100000
/-- For each reel a list of the function's own. -/
structure ByAt (h0 h : Heap) (n ob : Nat) (L : Nat → Value) (G : Nat → List Nat) : Prop where
  o : h.get ob = some (.cells ((List.range n).map L) 31 false)
  leaf : ∀ r, r < n → FreshSl h0 h (L r) 3 1 ((G r).map fun (r : Nat) => i64 r) (G r).length
  linj : ∀ r r', r < n → r' < n → ∀ b, blkOf (L r) = some b → blkOf (L r') = some b → r = r'
  nr : h0.nx ≤ ob
theorem ByAt.ke {h0 h h' : Heap} {n ob : Nat} {L : Nat → Value} {G : Nat → List Nat} (a : ByAt h0 h n ob L G) (hk : ∀ b vs el op, (b = ob ∨ ∃ r, r < n ∧ blkOf (L r) = some b) → h.get b = some (.cells vs el op) → h'.get b = some (.cells vs el op)) : ByAt h0 h' n ob L G :=
  ⟨hk _ _ _ _ (.inl rfl) a.o, fun r hr => (a.leaf r hr).keep fun b o hb hg => by
    obtain ⟨⟨op, h1⟩, _⟩ := (a.leaf r hr).at3 hb
    rw [h1] at hg; cases hg
    exact hk _ _ _ _ (.inr ⟨r, hr, hb⟩) h1, a.linj, a.nr⟩
theorem ByAt.ext {h0 h h' : Heap} {n ob : Nat} {L : Nat → Value} {G : Nat → List Nat} (a : ByAt h0 h n ob L G) (he : Ext h h') : ByAt h0 h' n ob L G := a.ke fun _ _ _ _ _ hg => he.get hg
def updN {α : Type} (G : Nat → α) (c : Nat) (x : α) : Nat → α := fun c' => if c' = c then x else G c'
theorem updN_same {α : Type} (G : Nat → α) (c : Nat) (x : α) : updN G c x c = x := by simp [updN]
theorem updN_other {α : Type} (G : Nat → α) {c c' : Nat} (x : α) (h : c' ≠ c) : updN G c x c' = G c' := by simp [updN, h]
/-- One more in the list of a reel. -/
theorem ByAt.push {h0 h h1 h' : Heap} {n ob r x : Nat} {L : Nat → Value} {G : Nat → List Nat} {v : Value} (a : ByAt h0 h n ob L G) (hw : WF h) (hr : r < n) (hF : FreshSl h0 h1 v 3 1 (((G r).map fun (r : Nat) => i64 r) ++ [i64 (x : Nat)]) ((G r).length + 1)) (hK : Keep h h1 (blkOf (L r))) (hv : blkOf v = blkOf (L r) ∨ ∃ b, blkOf v = some b ∧ h.nx ≤ b)
    (hU : Upd h1 ob (.cells (((List.range n).map L).set r v) 31 false) h') : ByAt h0 h' n ob (updN L r v) (updN G r (G r ++ [x])) := by
  have hoo : h1.get ob = some (.cells ((List.range n).map L) 31 false) := hK _ _ (fun e => by
    obtain ⟨⟨op0, hg⟩, _⟩ := (a.leaf r hr).at3 e
    exact absurd (cells_el hg a.o) (by decide)) a.o
  have hlt : ∀ r' b, r' < n → blkOf (L r') = some b → b < h.nx := fun r' b hr' hb => by
    obtain ⟨⟨op0, hg⟩, _⟩ := (a.leaf r' hr').at3 hb
    exact hw _ _ hg
  have hleaf : ∀ r', r' < n → FreshSl h0 h1 (updN L r v r') 3 1 ((updN G r (G r ++ [x]) r').map fun (r : Nat) => i64 r) (updN G r (G r ++ [x]) r').length := fun r' hr' => by
    by_cases hc : r' = r
    · rw [hc, updN_same, updN_same, List.map_append, List.length_append]; exact hF
    · rw [updN_other _ _ hc, updN_other _ _ hc]
      exact (a.leaf r' hr').keep fun b o hb hg => hK _ _ (fun e => hc (a.linj r' r hr' hr b hb e)) hg
  refine ⟨?_, fun r' hr' => (hleaf r' hr').keep fun b o hb hg => hU.get (fun e => ?_) hg, fun r1 r2 h1' h2' b hb1 hb2 => ?_, a.nr⟩
  · rw [hU.at', range_set _ _ hr]
    rfl
  · obtain ⟨⟨op0, h2⟩, _⟩ := (hleaf r' hr').at3 hb
    exact absurd (cells_el hoo (e ▸ h2)) (by decide)
  · by_cases e1 : r1 = r <;> by_cases e2 : r2 = r
    · omega
    · rw [e1, updN_same] at hb1
      rw [updN_other _ _ e2] at hb2
      rcases hv with e | ⟨b', e, hb'⟩
      · rw [e] at hb1; exact absurd (a.linj r2 r h2' hr b hb2 hb1) e2
      · rw [e] at hb1; cases hb1
        have := hlt r2 _ h2' hb2; omega
    · rw [e2, updN_same] at hb2
      rw [updN_other _ _ e1] at hb1
      rcases hv with e | ⟨b', e, hb'⟩
      · rw [e] at hb2; exact absurd (a.linj r1 r h1' hr b hb1 hb2) e1
      · rw [e] at hb2; cases hb2
        have := hlt r1 _ h1' hb1; omega
    · rw [updN_other _ _ e1] at hb1
      rw [updN_other _ _ e2] at hb2
      exact a.linj r1 r2 h1' h2' b hb1 hb2
theorem natsL_cast (s : List Nat) : natsL (s.map fun (r : Nat) => (r : Int)) = s := by
  unfold natsL
  rw [List.map_map]
  conv => rhs; rw [← List.map_id s]
  exact List.map_congr_left fun x _ => Int.toNat_natCast x
/-- .. as a thing of the function's own. -/
def byI (h0 : Heap) (n ob : Nat) (L : Nat → Value) (G : Nat → List Nat) : It where
  S := fun c => c = ob ∨ ∃ r, r < n ∧ blkOf (L r) = some c
  p := fun h => ByAt h0 h n ob L G
  loc := fun hk a => a.ke fun b _ _ _ hb hg => hk b _ hb hg
  ex := fun {h c} a hc => by
    rcases hc with rfl | ⟨r, hr, hb⟩
    · exact ⟨_, a.o⟩
    · obtain ⟨op, h1⟩ := (a.leaf r hr).got hb
      exact ⟨_, h1⟩
/-- Rows of cells, one behind another. -/
theorem cut_flat {α : Type} {f : α → List Value} {k : Nat} : ∀ {P : List α} {i : Nat} (hi : i < P.length), (∀ p ∈ P, (f p).length = k) → cut (P.flatMap f) (i * k) k = some (f P[i])
  | p :: P, 0, _, h => by
    have hp := h p List.mem_cons_self
    rw [List.flatMap_cons, Nat.zero_mul, cut_le (by rw [List.length_append]; omega)]
    simp only [List.drop_zero, List.getElem_cons_zero, Option.some.injEq]
    rw [← hp]
    exact List.take_left
  | p :: P, i + 1, hi, h => by
    have hp := h p List.mem_cons_self
    have ih := cut_flat (f := f) (k := k) (P := P) (i := i) (by simpa using hi) fun q hq => h q (List.mem_cons_of_mem _ hq)
    rw [List.flatMap_cons, List.getElem_cons_succ, ← ih]
    have hle : i * k + k ≤ (P.flatMap f).length := by
      have hl : (P.flatMap f).length = P.length * k := by
        have : ∀ {Q : List α}, (∀ p ∈ Q, (f p).length = k) → (Q.flatMap f).length = Q.length * k := by
          intro Q hQ
          induction Q with
          | nil => simp
          | cons q Q ihQ => rw [List.flatMap_cons, List.length_append, hQ q List.mem_cons_self, ihQ fun x hx => hQ x (List.mem_cons_of_mem _ hx), List.length_cons, Nat.succ_mul, Nat.add_comm]
        exact this fun q hq => h q (List.mem_cons_of_mem _ hq)
      have : i + 1 ≤ P.length := by
        have : i + 1 < (p :: P).length := hi
        rw [List.length_cons] at this; omega
      rw [hl, ← Nat.succ_mul]
      exact Nat.mul_le_mul_right k this
    rw [cut_le hle, cut_le (by rw [List.length_append, hp, Nat.succ_mul]; omega), Nat.succ_mul]
    congr 2
    rw [List.drop_append, List.drop_eq_nil_of_le (by omega), hp]
    simp
/-- Lists of numbers that lie apart from one another, and stay. -/
def lvI (h0 : Heap) (P : List (Lat × Value)) : It where
  S := fun c => ∃ p ∈ P, blkOf p.2 = some c
  p := fun h => ∀ p ∈ P, FreshSl h0 h p.2 3 1 (p.1.by'.map i64) p.1.by'.length
  loc := fun hk a p hp => (a p hp).keep fun b o hb hg => hk b o ⟨p, hp, hb⟩ hg
  ex := fun {h c} a hc => by
    obtain ⟨p, hp, hb⟩ := hc
    obtain ⟨op, h1⟩ := (a p hp).got hb
    exact ⟨_, h1⟩
def latRow (p : Lat × Value) : List Value := [i64 p.1.reel, p.2]
theorem ints_len' (l : List Nat) : (ints l).length = l.length := List.length_map _
/-- Late reels in memory. -/
theorem lats_of {h0 h : Heap} {v : Value} {P : List (Lat × Value)} (hF : FreshSl h0 h v 61 2 (P.flatMap latRow) P.length) (hB : (lvI h0 P).p h) : ∃ a, v = .slice a P.length P.length ∧ LatsAt h a (P.map Prod.fst) := by
  rcases hF with ⟨rfl, _, hn⟩ | ⟨b, sp, op, rfl, hg, _⟩
  · refine ⟨none, by rw [hn], fun i hi => ?_⟩
    rw [List.length_map, hn] at hi; omega
  · refine ⟨_, rfl, fun i hi => ⟨b, 0, sp, rfl, _, rowAt_cells hg (by rw [Nat.zero_add]; exact cut_flat (by simpa using hi) fun _ _ => rfl), ?_⟩⟩
    have hi' : i < P.length := by simpa using hi
    obtain ⟨a, e, _, hs⟩ := (hB P[i] (List.getElem_mem hi')).srcAt
    rw [List.getElem_map]
    exact ⟨a, _, by unfold latRow; rw [e], hs⟩
open Classical in
/-- Of the first k kept ones those without which a reel fits. -/
noncomputable def byK (t : Task) (kept : List Nat) (r k : Nat) : List Nat := (List.range k).flatMap fun i => if fitN t (kept.take i ++ kept.drop (i + 1) ++ [r]) then [kept.getD i 0] else []
theorem byK_len (t : Task) (kept : List Nat) (r k : Nat) : (byK t kept r k).length ≤ k := by
  induction k with
  | zero => exact Nat.le_refl _
  | succ k ih =>
    unfold byK at ih ⊢
    rw [List.range_succ, List.flatMap_append, List.length_append, List.flatMap_cons, List.flatMap_nil, List.append_nil]
    refine Nat.add_le_add ih ?_
    split
    · exact Nat.le_refl _
    · exact Nat.zero_le _
open Classical in
theorem byK_succ {t : Task} {kept : List Nat} {r k : Nat} (hk : k < kept.length) : byK t kept r (k + 1) = byK t kept r k ++ if fitN t (kept.take k ++ kept.drop (k + 1) ++ [r]) then [kept[k]] else [] := by
  unfold byK
  rw [List.range_succ, List.flatMap_append, List.flatMap_cons, List.flatMap_nil, List.append_nil, List.getD_eq_getElem?_getD, List.getElem?_eq_getElem hk, Option.getD_some]
end Go.Dw
/- W15: the contract of the reference's turns. -/
namespace Go.Dw
open Go Go.Dx Go.Proofs Go.Mt
set_option maxRecDepth 100000
/-- Machines whose places are the function's own. -/
def mRow (p : Mach × Value) : List Value := [str p.1.name, p.2]
def lfI (h0 : Heap) (p : Mach × Value) : It := slI h0 p.2 3 1 (p.1.places.map i64) p.1.places.length
/-- The workshop of these machines. -/
def uOf (t : Task) (X : List (Mach × Value)) : Task := ⟨t.first, t.days, X.map Prod.fst, t.reels⟩
def lowX (X : List (Mach × Value)) (m d : Nat) : List (Mach × Value) := X.modify m fun p => (lowP d p.1, p.2)
def tRow (x : Turn) : List Value := [i64 x.reel, i64 x.machine, i64 x.day]
theorem turns_of {h0 h : Heap} {v : Value} {T : List Turn} (hF : FreshSl h0 h v 59 3 (T.flatMap tRow) T.length) : ∃ a, v = .slice a T.length T.length ∧ TurnsAt h a T := by
  rcases hF with ⟨rfl, _, hn⟩ | ⟨b, sp, op, rfl, hg, _⟩
  · exact ⟨none, by rw [hn], fun i hi => by omega⟩
  · exact ⟨_, rfl, fun i hi => ⟨b, 0, sp, rfl, _, rowAt_cells hg (by rw [Nat.zero_add]; exact cut_flat hi fun _ _ => rfl), rfl⟩⟩
/-- What a search for a turn has come to. -/
def TurnSt (t : Task) (X : List (Mach × Value)) (T : List Turn) (r : Nat) (rest : List Nat) (before : Nat → Nat → Prop) (dn : Bool) (X' : List (Mach × Value)) (T' : List Turn) : Prop :=
  (dn = false ∧ X' = X ∧ T' = T ∧ ∀ d m, before d m → okC (uOf t X) r rest (d, m) = false) ∨ (dn = true ∧ ∃ d m, turnC (uOf t X) r rest = some (d, m) ∧ X' = lowX X m d ∧ T' = T ++ [⟨r, m, t.first + d⟩])
end Go.Dw
/- W16: the contract of the reference's Plan. -/
namespace Go.Dw
open Go Go.Dx Go.Proofs Go.Mt
set_option maxRecDepth 100000
theorem ints_nats {l : List Int} (h : ∀ x ∈ l, 0 ≤ x) : ints (natsL l) = l := by
  unfold ints natsL
  rw [List.map_map]
  conv => rhs; rw [← List.map_id l]
  exact List.map_congr_left fun x hx => Int.toNat_of_nonneg (h x hx)
theorem keptI_ints (t : Task) : ints (keptS t) = keptI t := ints_nats fun _ h => (keptI_in h).1
/-- What Plan hands out. -/
def PlanV (t : Task) (h : Heap) (v : Value) : Prop := ∃ a al, v = .tuple ⟨[.slice a (planS t).1.length (planS t).1.length, .slice al (planS t).2.1.length (planS t).2.1.length, i64 (planS t).2.2]⟩ ∧ TurnsAt h a (planS t).1 ∧ LatsAt h al (planS t).2.1
theorem planS_bad {t : Task} (h : errS t ≠ 0) : planS t = ([], [], errS t) := if_pos h
theorem planS_ok {t : Task} (h : errS t = 0) : planS t = (turnsG t (keptS t), lateL t, 0) := if_neg fun x => x h
end Go.Dw
/- W13: more places, a further reel, with no program in sight. -/
namespace Go.Dw
open Go Go.Dx Go.Proofs Go.Mt
/-- Names that are all right, behind others. -/
def namesOk : List (List UInt8) → List (List UInt8) → Prop
  | _, [] => True
  | b, s :: l => nameErr s b = 0 ∧ namesOk (b ++ [s]) l
theorem goM_iff {t : Task} : ∀ {l : List Mach} {i : Nat} {b : List (List UInt8)}, goM t i b l = none ↔ namesOk b (l.map Mach.name) ∧ ∀ m ∈ l, machErr t m = 0
  | [], _, _ => by simp [goM, namesOk]
  | m :: l, i, b => by
    unfold goM
    split
    · rename_i h
      simp only [reduceCtorEq, false_iff]
      exact fun g => h g.1.1
    · rename_i h1
      split
      · rename_i h
        simp only [reduceCtorEq, false_iff]
        exact fun g => h (g.2 m List.mem_cons_self)
      · rename_i h2
        rw [goM_iff]
        constructor
        · rintro ⟨a, c⟩
          exact ⟨⟨Classical.not_not.1 h1, a⟩, fun x hx => by
            rcases List.mem_cons.1 hx with e | g
            · rw [e]; exact Classical.not_not.1 h2
            · exact c x g⟩
        · rintro ⟨a, c⟩
          exact ⟨a.2, fun x hx => c x (List.mem_cons_of_mem _ hx)⟩
theorem goR_iff {t : Task} : ∀ {l : List Reel} {i : Nat} {b : List (List UInt8)}, goR t i b l = none ↔ namesOk b (l.map Reel.name) ∧ ∀ m ∈ l, reelErr t m = 0
  | [], _, _ => by simp [goR, namesOk]
  | m :: l, i, b => by
    unfold goR
    split
    · rename_i h
      simp only [reduceCtorEq, false_iff]
      exact fun g => h g.1.1
    · rename_i h1
      split
      · rename_i h
        simp only [reduceCtorEq, false_iff]
        exact fun g => h (g.2 m List.mem_cons_self)
      · rename_i h2
        rw [goR_iff]
        constructor
        · rintro ⟨a, c⟩
          exact ⟨⟨Classical.not_not.1 h1, a⟩, fun x hx => by
            rcases List.mem_cons.1 hx with e | g
            · rw [e]; exact Classical.not_not.1 h2
            · exact c x g⟩
        · rintro ⟨a, c⟩
          exact ⟨a.2, fun x hx => c x (List.mem_cons_of_mem _ hx)⟩
structure NoErr (t : Task) : Prop where
  first : 0 ≤ t.first ∧ t.first ≤ 80000
  days : 1 ≤ t.days ∧ t.days ≤ 60
  last : t.first + t.days - 1 ≤ 80000
  ms : 1 ≤ t.machines.length ∧ t.machines.length ≤ 4
  rs : t.reels.length ≤ 24
  mn : namesOk [] (t.machines.map Mach.name)
  me : ∀ m ∈ t.machines, machErr t m = 0
  rn : namesOk [] (t.reels.map Reel.name)
  re : ∀ r ∈ t.reels, reelErr t r = 0
theorem errS_iff {t : Task} : errS t = 0 ↔ NoErr t := by
  unfold errS checkS
  constructor
  · intro h
    split at h
    · cases h
    · rename_i h1
      split at h
      · cases h
      · rename_i h2
        split at h
        · rename_i x hx; exact absurd h (goM_e hx)
        · rename_i hM
          split at h
          · rename_i x hx; exact absurd h (goR_e hx)
          · rename_i hR
            exact ⟨by omega, by omega, by omega, by omega, by omega, (goM_iff.1 hM).1, (goM_iff.1 hM).2, (goR_iff.1 hR).1, (goR_iff.1 hR).2⟩
  · intro h
    have h1 := h.first
    have h2 := h.days
    have h3 := h.last
    have h4 := h.ms
    have h5 := h.rs
    rw [if_neg (by omega), if_neg (by omega), goM_iff.2 ⟨h.mn, h.me⟩, goR_iff.2 ⟨h.rn, h.re⟩]
/-! ### more places, more days -/
def MoreM (x y : Mach) : Prop := y.name = x.name ∧ y.places.length = x.places.length ∧ ∀ d, x.places.getD d 0 ≤ y.places.getD d 0 ∧ (d < x.places.length → 0 ≤ y.places.getD d 0 ∧ y.places.getD d 0 ≤ 20)
def MoreR (t : Task) (x y : Reel) : Prop := y.name = x.name ∧ y.machines = x.machines ∧ y.risk = x.risk ∧ y.ready ≤ x.ready ∧ x.due ≤ y.due ∧ t.first ≤ y.ready ∧ y.due ≤ t.first + t.days - 1
structure MoreT (t u : Task) : Prop where
  first : u.first = t.first
  days : u.days = t.days
  ml : u.machines.length = t.machines.length
  rl : u.reels.length = t.reels.length
  ms : ∀ i (h : i < t.machines.length) (h' : i < u.machines.length), MoreM t.machines[i] u.machines[i]
  rs : ∀ i (h : i < t.reels.length) (h' : i < u.reels.length), MoreR t t.reels[i] u.reels[i]
theorem MoreT.fit {t u : Task} (h : MoreT t u) (hE : NoErr t) {K : List Nat} (hK : K.Nodup) (hf : fitN t K) : fitN u K := by
  have hV := valid_of (errS_iff.2 hE)
  have hl : ∀ r ∈ K, r < t.reels.length := by
    obtain ⟨f, h1, _⟩ := hf
    exact fun r hr => places_lt (h1 r hr)
  rw [fitN_cells hK] at hf ⊢
  refine fitC_mono (fun r hr c hc => ?_) (fun r hr c hc => ?_) hf
  · obtain ⟨_, r2, _, r4, r5, _⟩ := h.rs r (hl r hr) (by rw [h.rl]; exact hl r hr)
    unfold adjM at hc ⊢
    rw [reelAt_nat (hl r hr)] at hc
    rw [reelAt_nat (by rw [h.rl]; exact hl r hr), r2]
    exact ⟨hc.1, by omega, by omega⟩
  · obtain ⟨m, d⟩ := c
    obtain ⟨m', d', rfl, rfl, hm, hd⟩ := adjM_cell hV (hl r hr) hc
    show (capT t (m' : Int) (t.first + (d' : Int))).toNat ≤ (capT u (m' : Int) (t.first + (d' : Int))).toNat
    have e := capT_M (u := u) (m := m') (d := d')
    rw [h.first] at e
    rw [capT_M, e]
    have h1 := ((h.ms m' hm (by rw [h.ml]; exact hm)).2.2 d').1
    unfold capM
    rw [List.getD_eq_getElem?_getD (l := t.machines), List.getElem?_eq_getElem hm, List.getD_eq_getElem?_getD (l := u.machines), List.getElem?_eq_getElem (by rw [h.ml]; exact hm)]
    simp only [Option.getD_some]
    omega
theorem MoreT.risk {t u : Task} (h : MoreT t u) {r : Nat} (hr : r < t.reels.length) : riskT u r = riskT t r := by
  unfold riskT riskN
  rw [reelAt_nat hr, reelAt_nat (by rw [h.rl]; exact hr), (h.rs r hr (by rw [h.rl]; exact hr)).2.2.1]
/-! ### a further reel -/
def plus (t : Task) (x : Reel) : Task := ⟨t.first, t.days, t.machines, t.reels ++ [x]⟩
section
variable {t : Task} {x : Reel}
end
end Go.Dw
/- W14: without a late reel all else is the same, with no program in sight. -/
namespace Go.Dw
open Go Go.Dx Go.Proofs Go.Mt
/-- The number, with all reels, of what without reel n is the reel numbered k; and back. -/
def up (n k : Nat) : Nat := if k < n then k else k + 1
def dn (n r : Nat) : Nat := if r < n then r else r - 1
theorem dn_up (n k : Nat) : dn n (up n k) = k := by
  unfold dn up
  by_cases h : k < n
  · rw [if_pos h, if_pos h]
  · rw [if_neg h, if_neg (by omega)]; omega
theorem up_dn {n r : Nat} (h : r ≠ n) : up n (dn n r) = r := by
  unfold dn up
  by_cases h1 : r < n
  · rw [if_pos h1, if_pos h1]
  · rw [if_neg h1, if_neg (by omega)]; omega
theorem up_ne (n k : Nat) : up n k ≠ n := by unfold up; split <;> omega
theorem up_lt {n a b : Nat} : up n a < up n b ↔ a < b := by unfold up; split <;> split <;> omega
theorem up_inj {n a b : Nat} (h : up n a = up n b) : a = b := by rw [← dn_up n a, h, dn_up]
/-- u is t without reel n. -/
structure Less (t u : Task) (n : Nat) : Prop where
  first : u.first = t.first
  days : u.days = t.days
  ms : u.machines = t.machines
  lt : n < t.reels.length
  len : u.reels.length + 1 = t.reels.length
  at' : ∀ k, k < u.reels.length → reelAt u (k : Nat) = reelAt t (up n k : Nat)
section
variable {t u : Task} {n : Nat}
theorem Less.up_lt (h : Less t u n) {k : Nat} (hk : k < u.reels.length) : up n k < t.reels.length := by have := h.len; have := h.lt; unfold up; split <;> omega
theorem Less.dn_lt (h : Less t u n) {r : Nat} (hr : r < t.reels.length) (hne : r ≠ n) : dn n r < u.reels.length := by have := h.len; have := h.lt; unfold dn; split <;> omega
theorem Less.risk (h : Less t u n) {k : Nat} (hk : k < u.reels.length) : riskN u k = riskN t (up n k) := by unfold riskN; rw [h.at' k hk]
theorem fit_relabel {P : Type} {adj adj' : Nat → P → Prop} {g g' : Nat → Nat} (hg : ∀ k, g' (g k) = k) {K : List Nat} (ha : ∀ k ∈ K, ∀ p, adj' k p ↔ adj (g k) p) : Fit adj' K ↔ Fit adj (K.map g) := by
  constructor
  · rintro ⟨f, h1, h2⟩
    refine ⟨fun r => f (g' r), fun r hr => ?_, fun r hr s hs e => ?_⟩
    · obtain ⟨k, hk, rfl⟩ := List.mem_map.1 hr
      show adj (g k) (f (g' (g k)))
      rw [hg]; exact (ha k hk _).1 (h1 k hk)
    · obtain ⟨k, hk, rfl⟩ := List.mem_map.1 hr
      obtain ⟨j, hj, rfl⟩ := List.mem_map.1 hs
      simp only [hg] at e
      rw [h2 k hk j hj e]
  · rintro ⟨f, h1, h2⟩
    refine ⟨fun k => f (g k), fun k hk => (ha k hk _).2 (h1 _ (List.mem_map.2 ⟨k, hk, rfl⟩)), fun k hk j hj e => ?_⟩
    have := h2 _ (List.mem_map.2 ⟨k, hk, rfl⟩) _ (List.mem_map.2 ⟨j, hj, rfl⟩) e
    rw [← hg k, this, hg]
theorem Less.fit (h : Less t u n) {K : List Nat} (hl : ∀ k ∈ K, k < u.reels.length) : fitN u K ↔ fitN t (K.map (up n)) := by
  refine fit_relabel (g' := dn n) (dn_up n) fun k hk p => ?_
  obtain ⟨m, d, j⟩ := p
  simp only [adjB, mem_placesL]
  rw [h.at' k (hl k hk)]
  unfold capT
  rw [h.ms, h.first]
theorem flatMap_congr' {α β : Type} {l : List α} {f g : α → List β} (h : ∀ a ∈ l, f a = g a) : l.flatMap f = l.flatMap g := by
  induction l with
  | nil => rfl
  | cons a l ih => rw [List.flatMap_cons, List.flatMap_cons, h a List.mem_cons_self, ih fun b hb => h b (List.mem_cons_of_mem _ hb)]
theorem byN_up (h : Less t u n) {K : List Nat} {r : Nat} (hl : ∀ k ∈ K, k < u.reels.length) (hr : r < u.reels.length) : byN t (K.map (up n)) (up n r) = (byN u K r).map (up n) := by
  unfold byN
  rw [List.length_map, List.map_flatMap]
  refine flatMap_congr' fun i hi => ?_
  have hi := List.mem_range.1 hi
  have hc : fitN u (K.take i ++ K.drop (i + 1) ++ [r]) ↔ fitN t ((K.map (up n)).take i ++ (K.map (up n)).drop (i + 1) ++ [up n r]) := by
    rw [h.fit (fun k hk => ?_)]
    · simp only [List.map_append, List.map_take, List.map_drop, List.map_cons, List.map_nil]
    · rcases List.mem_append.1 hk with g | g
      · rcases List.mem_append.1 g with g | g
        · exact hl k (List.mem_of_mem_take g)
        · exact hl k (List.mem_of_mem_drop g)
      · rw [List.mem_singleton.1 g]; exact hr
  by_cases hf : fitN u (K.take i ++ K.drop (i + 1) ++ [r])
  · rw [if_pos hf, if_pos (hc.1 hf)]
    simp only [List.map_cons, List.map_nil, List.getD_eq_getElem?_getD, List.getElem?_map, List.getElem?_eq_getElem hi, Option.map_some, Option.getD_some]
  · rw [if_neg hf, if_neg (fun g => hf (hc.2 g))]; rfl
def upP (n : Nat) (p : Nat × List Nat) : Nat × List Nat := (up n p.1, p.2.map (up n))
theorem goN_up (h : Less t u n) {s : List Nat} (hs : ∀ k ∈ s, k < u.reels.length) : goN t (s.map (up n)) = ((goN u s).1.map (up n), (goN u s).2.map (upP n)) := by
  revert hs
  refine snoc_ind (p := fun s => (∀ k ∈ s, k < u.reels.length) → goN t (s.map (up n)) = ((goN u s).1.map (up n), (goN u s).2.map (upP n))) (fun _ => rfl) (fun s y ih hs => ?_) s
  have ih := ih fun r hr => hs r (List.mem_append_left _ hr)
  have hk : ∀ r ∈ (goN u s).1, r < u.reels.length := fun r hr => hs r (List.mem_append_left _ ((goN_sub u s).subset hr))
  have hy := hs y (by simp)
  have hkk : ∀ r ∈ (goN u s).1 ++ [y], r < u.reels.length := fun r hr => by
    rcases List.mem_append.1 hr with g | g
    · exact hk r g
    · rw [List.mem_singleton.1 g]; exact hy
  have hc := h.fit hkk
  rw [List.map_append, List.map_cons, List.map_nil] at hc
  rw [List.map_append, List.map_cons, List.map_nil, goN_snoc, goN_snoc, ih]
  unfold stepN
  simp only
  by_cases hf : fitN u ((goN u s).1 ++ [y])
  · rw [if_pos hf, if_pos (hc.1 hf)]
    simp only [List.map_append, List.map_cons, List.map_nil]
  · rw [if_neg hf, if_neg (fun g => hf (hc.2 g)), byN_up h hk hy]
    simp only [List.map_append, List.map_cons, List.map_nil, upP]
theorem goN_drop {s : List Nat} (hn : s.Nodup) (hk : n ∉ (goN t s).1) : goN t (s.filter fun r => decide (r ≠ n)) = ((goN t s).1, (goN t s).2.filter fun p => decide (p.1 ≠ n)) := by
  revert hn hk
  refine snoc_ind (p := fun s => s.Nodup → n ∉ (goN t s).1 → goN t (s.filter fun r => decide (r ≠ n)) = ((goN t s).1, (goN t s).2.filter fun p => decide (p.1 ≠ n))) (fun _ _ => rfl) (fun s y ih hn hk => ?_) s
  have hs := List.nodup_append.1 hn
  rw [goN_snoc] at hk ⊢
  rw [List.filter_append]
  by_cases hy : y = n
  · subst hy
    have e : ([y].filter fun r => decide (r ≠ y)) = [] := by simp
    rw [e, List.append_nil]
    unfold stepN at hk ⊢
    by_cases hf : fitN t ((goN t s).1 ++ [y])
    · rw [if_pos hf] at hk; exact absurd (by simp) hk
    · rw [if_neg hf] at hk ⊢
      rw [ih hs.1 hk]
      simp
  · have e : ([y].filter fun r => decide (r ≠ n)) = [y] := by simp [hy]
    rw [e, goN_snoc]
    unfold stepN at hk ⊢
    by_cases hf : fitN t ((goN t s).1 ++ [y])
    · rw [if_pos hf] at hk
      have hk' : n ∉ (goN t s).1 := fun g => hk (List.mem_append_left _ g)
      rw [ih hs.1 hk']
      simp only
      rw [if_pos hf, if_pos hf]
    · rw [if_neg hf] at hk
      rw [ih hs.1 hk]
      simp only
      rw [if_neg hf, if_neg hf]
      simp [hy]
theorem ordN_up (h : Less t u n) : (ordN u).map (up n) = (ordN t).filter fun r => decide (r ≠ n) := by
  refine perm_pw_eq (R := fun a b => riskN t b < riskN t a ∨ (riskN t a = riskN t b ∧ a < b)) (fun a b h g => by omega) ?_ ?_ ((ordN_by t).filter _)
  · refine (List.perm_ext_iff_of_nodup (map_nodup (fun a _ b _ e => up_inj e) (ordN_nodup u)) ((ordN_nodup t).filter _)).2 fun r => ?_
    rw [List.mem_map, List.mem_filter, mem_ordN, decide_eq_true_eq]
    constructor
    · rintro ⟨k, hk, rfl⟩
      exact ⟨h.up_lt (mem_ordN.1 hk), up_ne n k⟩
    · rintro ⟨h1, h2⟩
      exact ⟨dn n r, mem_ordN.2 (h.dn_lt h1 h2), up_dn h2⟩
  · rw [List.pairwise_map]
    refine (List.Pairwise.and_mem.1 (ordN_by u)).imp fun {a b} g => ?_
    have h1 := h.risk (mem_ordN.1 g.1)
    have h2 := h.risk (mem_ordN.1 g.2.1)
    have h3 := up_lt (n := n) (a := a) (b := b)
    have := g.2.2
    rw [← h1, ← h2, h3]
    exact this
theorem goT_up (h : Less t u n) (hn : n ∉ (goT t).1) : (goT t).1 = (goT u).1.map (up n) ∧ ((goT t).2.filter fun p => decide (p.1 ≠ n)) = (goT u).2.map (upP n) := by
  have h1 := goN_up h (s := ordN u) fun k hk => mem_ordN.1 hk
  rw [ordN_up h, goN_drop (ordN_nodup t) hn] at h1
  exact ⟨congrArg Prod.fst h1, congrArg Prod.snd h1⟩
abbrev upI (n : Nat) (x : Int) : Int := ((up n x.toNat : Nat) : Int)
theorem ints_up (n : Nat) (l : List Nat) : ints (l.map (up n)) = (ints l).map (upI n) := by
  unfold ints
  rw [List.map_map, List.map_map]
  refine List.map_congr_left fun x _ => ?_
  show ((up n x : Nat) : Int) = ((up n ((x : Nat) : Int).toNat : Nat) : Int)
  rw [Int.toNat_natCast]
theorem sortI_up {n : Nat} {l : List Nat} : sortI (ints (l.map (up n))) = (sortI (ints l)).map (upI n) := by
  refine (sortI_eq ?_ ?_).symm
  · rw [ints_up]; exact (sortI_perm _).map _
  · have h := sortI_sorted (ints l)
    unfold Sorted at h ⊢
    rw [List.pairwise_map]
    refine (List.Pairwise.and_mem.1 h).imp fun {a b} g => ?_
    obtain ⟨x, _, rfl⟩ := List.mem_map.1 (mem_sortI.1 g.1)
    obtain ⟨y, _, rfl⟩ := List.mem_map.1 (mem_sortI.1 g.2.1)
    have h1 := g.2.2
    have h2 := up_lt (n := n) (a := y) (b := x)
    unfold upI
    rw [Int.toNat_natCast, Int.toNat_natCast]
    omega
theorem keptI_up (h : Less t u n) (hn : n ∉ (goT t).1) : keptI t = (keptI u).map (upI n) := by
  unfold keptI
  rw [(goT_up h hn).1, sortI_up]
theorem keptS_up (h : Less t u n) (hn : n ∉ (goT t).1) : keptS t = (keptS u).map (up n) := by
  unfold keptS natsL
  rw [keptI_up h hn, List.map_map, List.map_map]
  exact List.map_congr_left fun x _ => by simp [upI]
/-! ### turns -/
theorem Less.low (h : Less t u n) (m d : Nat) : Less (low t m d) (low u m d) n := ⟨h.first, h.days, by show u.machines.modify m (lowP d) = t.machines.modify m (lowP d); rw [h.ms], h.lt, h.len, h.at'⟩
def dnT (n : Nat) (x : Turn) : Turn := ⟨if (n : Int) < x.reel then x.reel - 1 else x.reel, x.machine, x.day⟩
theorem turnsG_up : ∀ {l : List Nat} {t u : Task} {n : Nat}, Less t u n → (∀ k ∈ l, k < u.reels.length) → turnsG u l = (turnsG t (l.map (up n))).map (dnT n)
  | [], _, _, _, _, _ => rfl
  | r :: rest, t, u, n, h, hl => by
    have hr := hl r List.mem_cons_self
    have hrest : ∀ k ∈ rest, k < u.reels.length := fun k hk => hl k (List.mem_cons_of_mem _ hk)
    have hok : ∀ c, okC u r rest c = okC t (up n r) (rest.map (up n)) c := fun c => by
      have e1 : canB u r c.2 c.1 = canB t (up n r : Nat) c.2 c.1 := by unfold canB; rw [h.at' r hr, h.first]
      have e2 : capM u c.2 c.1 = capM t c.2 c.1 := by unfold capM; rw [h.ms]
      have e3 : fitN (Dw.low u c.2 c.1) rest ↔ fitN (Dw.low t c.2 c.1) (rest.map (up n)) := (h.low c.2 c.1).fit hrest
      rw [Bool.eq_iff_iff, okC_iff, okC_iff, e1, e2, e3]
    have hc : turnC u r rest = turnC t (up n r) (rest.map (up n)) := by
      unfold turnC cellsT
      rw [h.days, h.ms, funext hok]
    unfold turnsG
    rw [List.map_cons]
    show _ = (match turnC t (up n r) (rest.map (up n)) with | none => turnsG t (rest.map (up n)) | some c => ⟨(up n r : Nat), c.2, t.first + c.1⟩ :: turnsG (Dw.low t c.2 c.1) (rest.map (up n))).map (dnT n)
    rw [hc]
    cases turnC t (up n r) (rest.map (up n)) with
    | none => exact turnsG_up h hrest
    | some c =>
      simp only [List.map_cons]
      rw [turnsG_up (h.low c.2 c.1) hrest, h.first]
      congr 1
      unfold dnT
      congr 1
      show (r : Int) = if (n : Int) < (up n r : Nat) then ((up n r : Nat) : Int) - 1 else (up n r : Nat)
      unfold up
      split <;> split <;> omega
theorem turns_without (h : Less t u n) (hn : n ∉ (goT t).1) : turnsG u (keptS u) = (turnsG t (keptS t)).map (dnT n) := by
  rw [keptS_up h hn]
  exact turnsG_up h fun k hk => keptS_lt hk
/-! ### late reels -/
/-- A list of numbers without one of them, and those above it one less. -/
def lessL (n : Int) (l : List Int) : List Int := l.flatMap fun x => if x < n then [x] else if n < x then [x - 1] else []
theorem lessL_up {n : Nat} {l : List Int} (h : ∀ x ∈ l, 0 ≤ x) : lessL n (l.map (upI n)) = l := by
  induction l with
  | nil => rfl
  | cons a l ih =>
    have := h a List.mem_cons_self
    have ih := ih fun x hx => h x (List.mem_cons_of_mem _ hx)
    unfold lessL at ih ⊢
    rw [List.map_cons, List.flatMap_cons, ih]
    have e : (if upI n a < n then [upI n a] else if (n : Int) < upI n a then [upI n a - 1] else []) = [a] := by
      unfold upI up
      split <;> split <;> (try split) <;> first | (congr 1; omega) | omega
    rw [e]; rfl
def dnL (n : Nat) (x : Lat) : Lat := ⟨if (n : Int) < x.reel then x.reel - 1 else x.reel, lessL n x.by'⟩
theorem lateN_up (h : Less t u n) (hn : n ∉ (goT t).1) : (lateN t).filter (fun r => decide (r ≠ n)) = (lateN u).map (up n) := by
  refine perm_pw_eq (R := fun a b => a < b) (fun a b h g => by omega) ?_ ((lateN_pw t).filter _) ?_
  · refine (List.perm_ext_iff_of_nodup (((lateN_pw t).imp fun h => by omega).filter _) (map_nodup (fun a _ b _ e => up_inj e) ((lateN_pw u).imp fun h => by omega))).2 fun r => ?_
    rw [List.mem_filter, List.mem_map, decide_eq_true_eq]
    simp only [late_iff]
    have h2 := (goT_up h hn).2
    constructor
    · rintro ⟨a, b⟩
      obtain ⟨p, hp, rfl⟩ := List.mem_map.1 a
      have : p ∈ (goT t).2.filter fun p => decide (p.1 ≠ n) := List.mem_filter.2 ⟨hp, decide_eq_true b⟩
      rw [h2] at this
      obtain ⟨q, hq, rfl⟩ := List.mem_map.1 this
      exact ⟨q.1, List.mem_map.2 ⟨q, hq, rfl⟩, rfl⟩
    · rintro ⟨k, hk, rfl⟩
      obtain ⟨q, hq, rfl⟩ := List.mem_map.1 hk
      have : upP n q ∈ (goT u).2.map (upP n) := List.mem_map.2 ⟨q, hq, rfl⟩
      rw [← h2] at this
      exact ⟨List.mem_map.2 ⟨_, (List.mem_filter.1 this).1, rfl⟩, up_ne n q.1⟩
  · rw [List.pairwise_map]; exact (lateN_pw u).imp fun h => up_lt.2 h
theorem byOf_up (h : Less t u n) (hn : n ∉ (goT t).1) {k : Nat} (hk : k ∈ lateN u) : byOf t (up n k) = (byOf u k).map (up n) := by
  obtain ⟨q, hq, rfl⟩ := List.mem_map.1 (late_iff.1 hk)
  have h2 := (goT_up h hn).2
  have : upP n q ∈ (goT u).2.map (upP n) := List.mem_map.2 ⟨q, hq, rfl⟩
  rw [← h2] at this
  rw [byOf_mem hq]
  exact byOf_mem (List.mem_filter.1 this).1
theorem late_without (h : Less t u n) (hn : n ∉ (goT t).1) : lateL u = ((lateL t).filter fun x => decide (x.reel ≠ (n : Int))).map (dnL n) := by
  unfold lateL
  rw [List.filter_map, List.map_map]
  have e : (lateN t).filter ((fun x : Lat => decide (x.reel ≠ n)) ∘ latOf t) = (lateN t).filter fun r => decide (r ≠ n) := List.filter_congr fun r _ => by
    show decide ((r : Int) ≠ n) = _
    by_cases g : r = n
    · simp [g]
    · simp [g]; omega
  rw [e, lateN_up h hn, List.map_map]
  refine List.map_congr_left fun k hk => ?_
  show latOf u k = dnL n (latOf t (up n k))
  unfold latOf dnL
  simp only
  rw [byOf_up h hn hk, sortI_up, lessL_up]
  · congr 1
    show (k : Int) = if (n : Int) < (up n k : Nat) then ((up n k : Nat) : Int) - 1 else (up n k : Nat)
    unfold up
    split <;> split <;> omega
  · intro x hx
    obtain ⟨y, _, rfl⟩ := List.mem_map.1 (mem_sortI.1 hx)
    omega
end
end Go.Dw
