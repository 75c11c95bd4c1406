/- SA: chapter 11 with no program in sight: a task, what is wrong with it. -/
import Derived.Test.YtfgeelpahicelaaGreatDoorPG4
namespace Go.Dw
open Go Go.Dx Go.Proofs
structure Sp where
  lo : Int
  hi : Int
structure ScV where
  name : List UInt8
  land : Int
  proj : Int
  speeds : Sp
  change : Int
  spool : Int
  turn : Int
  digital : Bool
structure ScR where
  work : List UInt8
  version : List UInt8
  land : Int
  days : Sp
structure ScP where
  name : List UInt8
  work : List UInt8
  version : List UInt8
  reels : List Int
  speeds : Sp
  land : Int
structure ScPk where
  name : List UInt8
  work : List UInt8
  version : List UInt8
  frames : Int
  speed : Int
structure ScK where
  pack : Int
  venue : Int
  window : Sp
structure ScL where
  print : Int
  venue : Int
  days : Sp
structure ScT where
  first : Int
  lands : List (List UInt8)
  travel : List (List Int)
  venues : List ScV
  rights : List ScR
  prints : List ScP
  packs : List ScPk
  keys : List ScK
  loans : List ScL
def nameErr (s : List UInt8) (before : List (List UInt8)) : Int := if nameR s = false then 6 else if s ∈ before then 5 else 0
def oddS (s : Sp) (lo hi : Int) : Int := if (s.lo < lo \/ hi < s.lo) \/ (s.hi < lo \/ hi < s.hi) then 7 else if s.hi < s.lo then 2 else 0
def travelErr (t : ScT) : Int :=
  if t.travel.length ≠ t.lands.length then 2 else if (t.travel.any fun l => decide (l.length ≠ t.lands.length)) = true then 2
  else if (t.travel.any fun l => l.any fun n => decide (n < -1 \/ 60 < n)) = true then 7 else 0
def abroad (t : ScT) (n : Int) : Prop := n < 0 \/ (t.lands.length : Int) - 1 < n
instance (t : ScT) (n : Int) : Decidable (abroad t n) := inferInstanceAs (Decidable (n < 0 \/ _ < n))
def venueErr (t : ScT) (v : ScV) : Int :=
  if abroad t v.land then 4 else if (v.proj < 0 \/ 2 < v.proj) \/ (v.change < 0 \/ 60 < v.change) \/ (v.turn < 0 \/ 60 < v.turn) \/ (v.spool < 1 \/ 200000 < v.spool) then 7 else oddS v.speeds 1 60
def rightErr (t : ScT) (r : ScR) : Int :=
  if nameR r.work = false \/ (r.version ≠ [] /\ nameR r.version = false) then 6 else if abroad t r.land then 4 else oddS r.days 0 80000
def printErr (t : ScT) (p : ScP) : Int :=
  if nameR p.work = false \/ nameR p.version = false then 6 else if p.reels.length < 1 \/ 12 < p.reels.length then 3
  else if (p.reels.any fun n => decide (n < 1 \/ 200000 < n)) = true then 7 else if oddS p.speeds 1 60 ≠ 0 then oddS p.speeds 1 60 else if abroad t p.land then 4 else 0
def packErr (p : ScPk) : Int :=
  if nameR p.work = false \/ nameR p.version = false then 6 else if (p.frames < 1 \/ 2400000 < p.frames) \/ (p.speed < 1 \/ 60 < p.speed) then 7 else 0
def keyErr (t : ScT) (k : ScK) : Int :=
  if (k.pack < 0 \/ (t.packs.length : Int) - 1 < k.pack) \/ (k.venue < 0 \/ (t.venues.length : Int) - 1 < k.venue) then 4 else oddS k.window 0 57600
def loanErr (t : ScT) (l : ScL) : Int :=
  if (l.print < 0 \/ (t.prints.length : Int) - 1 < l.print) \/ (l.venue < 0 \/ (t.venues.length : Int) - 1 < l.venue) then 4 else oddS l.days 0 80000
def goNm {α : Type} (nm : α -> List UInt8) (wrong : α -> Int) : Nat -> List (List UInt8) -> List α -> Option (Nat × Int)
  | _, _, [] => none
  | i, b, x :: xs => if nameErr (nm x) b ≠ 0 then some (i, nameErr (nm x) b) else if wrong x ≠ 0 then some (i, wrong x) else goNm nm wrong (i + 1) (b ++ [nm x]) xs
def goEa {α : Type} (wrong : α -> Int) : Nat -> List α -> Option (Nat × Int)
  | _, [] => none
  | i, x :: xs => if wrong x ≠ 0 then some (i, wrong x) else goEa wrong (i + 1) xs
def orE (part : Int) : Option (Nat × Int) -> Int × Int × Int -> Int × Int × Int
  | some (i, e), _ => (part, (i : Nat), e)
  | none, x => x
def checkSc (t : ScT) : Int × Int × Int :=
  if t.first < 0 \/ 80000 < t.first then (1, 0, 7)
  else if (t.lands.length < 1 \/ 8 < t.lands.length) \/ (t.venues.length < 1 \/ 8 < t.venues.length) \/ 30 < t.rights.length \/ 12 < t.prints.length \/ 12 < t.packs.length \/ 30 < t.keys.length \/ 30 < t.loans.length then (1, 0, 3)
  else orE 2 (goNm id (fun _ => 0) 0 [] t.lands) (if travelErr t ≠ 0 then (2, 0, travelErr t)
  else orE 3 (goNm ScV.name (venueErr t) 0 [] t.venues) (orE 4 (goEa (rightErr t) 0 t.rights) (orE 5 (goNm ScP.name (printErr t) 0 [] t.prints) (orE 6 (goNm ScPk.name packErr 0 [] t.packs)
    (orE 7 (goEa (keyErr t) 0 t.keys) (orE 8 (goEa (loanErr t) 0 t.loans) (0, 0, 0)))))))
def errSc (t : ScT) : Int := (checkSc t).2.2
def spVs (s : Sp) : List Value := [i64 s.lo, i64 s.hi]
def ScVR (_ : Heap) (row : List Value) (v : ScV) : Prop := row = [str v.name, i64 v.land, i64 v.proj, i64 v.speeds.lo, i64 v.speeds.hi, i64 v.change, i64 v.spool, i64 v.turn, .bool v.digital]
def ScRR (_ : Heap) (row : List Value) (r : ScR) : Prop := row = [str r.work, str r.version, i64 r.land, i64 r.days.lo, i64 r.days.hi]
def ScPR (h : Heap) (row : List Value) (p : ScP) : Prop := ∃ a c, row = [str p.name, str p.work, str p.version, .slice a p.reels.length c, i64 p.speeds.lo, i64 p.speeds.hi, i64 p.land] /\ IntsAt h a p.reels
def ScPkR (_ : Heap) (row : List Value) (p : ScPk) : Prop := row = [str p.name, str p.work, str p.version, i64 p.frames, i64 p.speed]
def ScKR (_ : Heap) (row : List Value) (k : ScK) : Prop := row = [i64 k.pack, i64 k.venue, i64 k.window.lo, i64 k.window.hi]
def ScLR (_ : Heap) (row : List Value) (l : ScL) : Prop := row = [i64 l.print, i64 l.venue, i64 l.days.lo, i64 l.days.hi]
def ScTvR (h : Heap) (row : List Value) (l : List Int) : Prop := ∃ a c, row = [.slice a l.length c] /\ IntsAt h a l
structure ParL {α : Type} (enc : α -> Value) (h : Heap) (a : Option Addr) (l : List α) (cap : Nat) : Prop where
  at' : ListAt enc h a l
  le : l.length <= cap
  plain : l ≠ [] -> ∃ b o, a = some ⟨b, o, none⟩
theorem ParL.ext {α : Type} {enc : α -> Value} {h h' : Heap} {a : Option Addr} {l : List α} {cap : Nat} (p : ParL enc h a l cap) (he : Ext h h') : ParL enc h' a l cap := ⟨p.at'.ext he, p.le, p.plain⟩
theorem ParL.take {α : Type} {enc : α -> Value} {h : Heap} {a : Option Addr} {l : List α} {cap : Nat} (p : ParL enc h a l cap) (k : Nat) : ListAt enc h a (l.take k) := by
  intro i hi
  simp only [List.length_take] at hi
  obtain ⟨b, o, oa, e, hc⟩ := p.at' i (by omega)
  exact ⟨b, o, oa, e, by simpa only [List.getElem_take] using hc⟩
def ScTAt (h : Heap) (row : List Value) (t : ScT) : Prop := ∃ al cl at' ct a1 c1 a2 c2 a3 c3 a4 c4 a5 c5 a6 c6, row = [i64 t.first, .slice al t.lands.length cl, .slice at' t.travel.length ct, .slice a1 t.venues.length c1, .slice a2 t.rights.length c2, .slice a3 t.prints.length c3, .slice a4 t.packs.length c4, .slice a5 t.keys.length c5, .slice a6 t.loans.length c6] ∧
  ParL str h al t.lands cl /\ RowsAt 1 ScTvR h at' t.travel /\ RowsAt 9 ScVR h a1 t.venues /\ RowsAt 5 ScRR h a2 t.rights /\ RowsAt 7 ScPR h a3 t.prints /\ RowsAt 5 ScPkR h a4 t.packs /\ RowsAt 4 ScKR h a5 t.keys /\ RowsAt 4 ScLR h a6 t.loans
theorem ScPR.ext {h h' : Heap} {row : List Value} {p : ScP} (a : ScPR h row p) (he : Ext h h') : ScPR h' row p := by
  obtain ⟨x, c, e, h1⟩ := a
  exact ⟨x, c, e, h1.ext he⟩
theorem ScTvR.ext {h h' : Heap} {row : List Value} {l : List Int} (a : ScTvR h row l) (he : Ext h h') : ScTvR h' row l := by
  obtain ⟨x, c, e, h1⟩ := a
  exact ⟨x, c, e, h1.ext he⟩
theorem ScTAt.ext {h h' : Heap} {row : List Value} {t : ScT} (a : ScTAt h row t) (he : Ext h h') : ScTAt h' row t := by
  obtain ⟨al, cl, at', ct, a1, c1, a2, c2, a3, c3, a4, c4, a5, c5, a6, c6, e, h1, h2, h3, h4, h5, h6, h7, h8⟩ := a
  exact ⟨al, cl, at', ct, a1, c1, a2, c2, a3, c3, a4, c4, a5, c5, a6, c6, e, h1.ext he, RowsAt.ext (R := ScTvR) (fun x y => ScTvR.ext x y) h2 he, RowsAt.ext (R := ScVR) (fun x _ => x) h3 he, RowsAt.ext (R := ScRR) (fun x _ => x) h4 he, RowsAt.ext (R := ScPR) (fun x y => ScPR.ext x y) h5 he, RowsAt.ext (R := ScPkR) (fun x _ => x) h6 he, RowsAt.ext (R := ScKR) (fun x _ => x) h7 he, RowsAt.ext (R := ScLR) (fun x _ => x) h8 he⟩
structure ScV.Fit (v : ScV) : Prop where
  name : Len v.name
  land : I64 v.land
  proj : I64 v.proj
  speeds : I64 v.speeds.lo /\ I64 v.speeds.hi
  change : I64 v.change
  spool : I64 v.spool
  turn : I64 v.turn
structure ScR.Fit (r : ScR) : Prop where
  work : Len r.work
  version : Len r.version
  land : I64 r.land
  days : I64 r.days.lo /\ I64 r.days.hi
structure ScP.Fit (p : ScP) : Prop where
  name : Len p.name
  work : Len p.work
  version : Len p.version
  reels : Len p.reels
  reelsI : ∀ n ∈ p.reels, I64 n
  speeds : I64 p.speeds.lo /\ I64 p.speeds.hi
  land : I64 p.land
structure ScPk.Fit (p : ScPk) : Prop where
  name : Len p.name
  work : Len p.work
  version : Len p.version
  frames : I64 p.frames
  speed : I64 p.speed
structure ScK.Fit (k : ScK) : Prop where
  pack : I64 k.pack
  venue : I64 k.venue
  window : I64 k.window.lo /\ I64 k.window.hi
structure ScL.Fit (l : ScL) : Prop where
  print : I64 l.print
  venue : I64 l.venue
  days : I64 l.days.lo /\ I64 l.days.hi
structure ScT.Fit (t : ScT) : Prop where
  first : I64 t.first
  lands : Len t.lands
  landsL : ∀ s ∈ t.lands, Len s
  travel : Len t.travel
  travelL : ∀ l ∈ t.travel, Len l /\ ∀ n ∈ l, I64 n
  venues : Len t.venues
  venuesF : ∀ v ∈ t.venues, v.Fit
  rights : Len t.rights
  rightsF : ∀ r ∈ t.rights, r.Fit
  prints : Len t.prints
  printsF : ∀ p ∈ t.prints, p.Fit
  packs : Len t.packs
  packsF : ∀ p ∈ t.packs, p.Fit
  keys : Len t.keys
  keysF : ∀ k ∈ t.keys, k.Fit
  loans : Len t.loans
  loansF : ∀ l ∈ t.loans, l.Fit
end Go.Dw
/- SB: chapter 11 with no program in sight: loans: in whatever order those of one day are looked at. -/
namespace Go.Dw
open Go Go.Dx Go.Proofs
def noV : ScV := ⟨[], 0, 0, ⟨0, 0⟩, 0, 0, 0, false⟩
def venLand (t : ScT) (v : Int) : Int := (t.venues.getD v.toNat noV).land
def trv (t : ScT) (a b : Int) : Int := (t.travel.getD a.toNat []).getD b.toNat 0
def stopG (t : ScT) (at' : Int) (fr : Option Int) (y : ScL) : Bool :=
  decide (trv t at' (venLand t y.venue) < 0) || (match fr with | none => false | some f => decide (y.days.lo - f <= trv t at' (venLand t y.venue)))
def goG (t : ScT) : Int -> Option Int -> List ScL -> Option Int
  | at', _, [] => some at'
  | at', fr, y :: l => if stopG t at' fr y = true then none else goG t (venLand t y.venue) (some y.days.hi) l
def canG (t : ScT) (home : Int) (l : List ScL) : Bool := match goG t home none l with | none => false | some at' => decide (0 <= trv t at' home)
def loLe (a b : ScL) : Prop := a.days.lo <= b.days.lo
theorem goG_twice {t : ScT} : ∀ {l : List ScL} {at' : Int} {fr : Option Int}, l.Pairwise loLe -> (∀ y ∈ l, y.days.lo <= y.days.hi) -> ¬ (l.map fun y => y.days.lo).Nodup -> goG t at' fr l = none
  | [], _, _, _, _, h => absurd List.nodup_nil h
  | [y], _, _, _, _, h => absurd (by simp) h
  | y :: z :: l, at', fr, hs, hv, h => by
    rw [goG]
    split
    · rfl
    rw [List.pairwise_cons] at hs
    by_cases e : z.days.lo = y.days.lo
    · rw [goG, if_pos]
      unfold stopG
      have := hv y List.mem_cons_self
      by_cases n0 : trv t (venLand t y.venue) (venLand t z.venue) < 0
      · rw [decide_eq_true n0]; rfl
      · simp only [Bool.or_eq_true, decide_eq_true_eq]
        right
        omega
    · refine goG_twice hs.2 (fun x hx => hv x (List.mem_cons_of_mem _ hx)) fun hn => h ?_
      rw [List.map_cons, List.nodup_cons]
      refine ⟨fun hm => ?_, hn⟩
      obtain ⟨x, hx, ex⟩ := List.mem_map.1 hm
      have h1 := hs.1 z List.mem_cons_self
      unfold loLe at h1
      rcases List.mem_cons.1 hx with rfl | hx
      · exact e ex
      · have h2 := (List.pairwise_cons.1 hs.2).1 x hx
        unfold loLe at h2
        omega
theorem canG_twice {t : ScT} {home : Int} {l : List ScL} (hs : l.Pairwise loLe) (hv : ∀ y ∈ l, y.days.lo <= y.days.hi) (h : ¬ (l.map fun y => y.days.lo).Nodup) : canG t home l = false := by
  unfold canG
  rw [goG_twice hs hv h]
theorem sorted_perm_eq {α : Type} {R : α -> α -> Prop} (hR : ∀ a b, R a b -> R b a -> False) : ∀ {l l' : List α}, l.Perm l' -> l.Pairwise R -> l'.Pairwise R -> l = l'
  | [], l', hp, _, _ => (List.Perm.nil_eq hp)
  | a :: l, l', hp, hs, hs' => by
    cases l' with
    | nil => exact absurd hp.length_eq (by simp)
    | cons b l' =>
      rw [List.pairwise_cons] at hs hs'
      have e : a = b := by
        rcases List.mem_cons.1 (hp.subset List.mem_cons_self) with e | g
        · exact e
        · rcases List.mem_cons.1 (hp.symm.subset List.mem_cons_self) with e | k
          · exact e.symm
          · exact (hR _ _ (hs.1 b k) (hs'.1 a g)).elim
      subst e
      rw [sorted_perm_eq hR ((List.perm_cons a).1 hp) hs.2 hs'.2]
theorem lt_of_nodup {l : List ScL} (hs : l.Pairwise loLe) (hn : (l.map fun y => y.days.lo).Nodup) : l.Pairwise fun a b => a.days.lo < b.days.lo := by
  induction l with
  | nil => exact .nil
  | cons a l ih =>
    rw [List.pairwise_cons] at hs ⊢
    rw [List.map_cons, List.nodup_cons] at hn
    refine ⟨fun b hb => ?_, ih hs.2 hn.2⟩
    have h1 := hs.1 b hb
    unfold loLe at h1
    have : a.days.lo ≠ b.days.lo := fun e => hn.1 (List.mem_map.2 ⟨b, hb, e.symm⟩)
    omega
theorem canG_perm {t : ScT} {home : Int} {l l' : List ScL} (hp : l.Perm l') (hs : l.Pairwise loLe) (hs' : l'.Pairwise loLe) (hv : ∀ y ∈ l, y.days.lo <= y.days.hi) : canG t home l = canG t home l' := by
  by_cases hn : (l.map fun y => y.days.lo).Nodup
  · have hn' : (l'.map fun y => y.days.lo).Nodup := (hp.map _).nodup_iff.1 hn
    rw [sorted_perm_eq (R := fun a b : ScL => a.days.lo < b.days.lo) (fun a b h1 h2 => by omega) hp (lt_of_nodup hs hn) (lt_of_nodup hs' hn')]
  · have hn' : ¬ (l'.map fun y => y.days.lo).Nodup := fun h => hn ((hp.map _).nodup_iff.2 h)
    rw [canG_twice hs hv hn, canG_twice hs' (fun y hy => hv y (hp.symm.subset hy)) hn']
def insG (g : ScL) (l : List ScL) : List ScL := l.takeWhile (fun y => decide (y.days.lo < g.days.lo)) ++ g :: l.dropWhile (fun y => decide (y.days.lo < g.days.lo))
theorem insG_perm (g : ScL) (l : List ScL) : (insG g l).Perm (g :: l) := by
  unfold insG
  have h := List.takeWhile_append_dropWhile (p := fun y : ScL => decide (y.days.lo < g.days.lo)) (l := l)
  refine List.perm_middle.trans ?_
  rw [h]
theorem insG_sorted {g : ScL} : ∀ {l : List ScL}, l.Pairwise loLe -> (insG g l).Pairwise loLe
  | [], _ => by unfold insG; simp
  | a :: l, hs => by
    rw [List.pairwise_cons] at hs
    by_cases c : a.days.lo < g.days.lo
    · have e : insG g (a :: l) = a :: insG g l := by unfold insG; rw [List.takeWhile_cons_of_pos (by simpa using c), List.dropWhile_cons_of_pos (by simpa using c)]; rfl
      rw [e, List.pairwise_cons]
      refine ⟨fun b hb => ?_, insG_sorted hs.2⟩
      rcases List.mem_cons.1 ((insG_perm g l).subset hb) with rfl | hb
      · exact Int.le_of_lt c
      · exact hs.1 b hb
    · have e : insG g (a :: l) = g :: a :: l := by unfold insG; rw [List.takeWhile_cons_of_neg (by simpa using c), List.dropWhile_cons_of_neg (by simpa using c)]; rfl
      rw [e, List.pairwise_cons, List.pairwise_cons]
      refine ⟨fun b hb => ?_, hs⟩
      rcases List.mem_cons.1 hb with rfl | hb
      · unfold loLe; omega
      · have := hs.1 b hb
        unfold loLe at this ⊢
        omega
def ofG (granted : List ScL) (x : ScL) : List ScL := granted.foldl (fun l g => if g.print = x.print then insG g l else l) [x]
theorem ofG_sorted {granted : List ScL} {x : ScL} : (ofG granted x).Pairwise loLe := by
  unfold ofG
  have : ∀ (l : List ScL), l.Pairwise loLe -> (granted.foldl (fun l g => if g.print = x.print then insG g l else l) l).Pairwise loLe := by
    induction granted with
    | nil => exact fun _ h => h
    | cons g gs ih =>
      intro l hl
      rw [List.foldl_cons]
      refine ih _ ?_
      split
      · exact insG_sorted hl
      · exact hl
  exact this _ (by simp)
theorem ofG_perm {granted : List ScL} {x : ScL} : (ofG granted x).Perm (x :: granted.filter fun g => decide (g.print = x.print)) := by
  unfold ofG
  have : ∀ (l : List ScL), (granted.foldl (fun l g => if g.print = x.print then insG g l else l) l).Perm (l ++ granted.filter fun g => decide (g.print = x.print)) := by
    induction granted with
    | nil => exact fun l => by simp
    | cons g gs ih =>
      intro l
      rw [List.foldl_cons, List.filter_cons]
      by_cases c : g.print = x.print
      · rw [if_pos c, if_pos (by simpa using c)]
        refine (ih _).trans ?_
        refine ((insG_perm g l).append_right _).trans ?_
        rw [List.cons_append]
        exact List.perm_middle.symm
      · rw [if_neg c, if_neg (by simpa using c)]
        exact ih _
  exact this [x]
def noP : ScP := ⟨[], [], [], [], ⟨0, 0⟩, 0⟩
def homeG (t : ScT) (p : Int) : Int := (t.prints.getD p.toNat noP).land
def grantS (t : ScT) (granted : List ScL) (x : ScL) : Bool := canG t (homeG t x.print) (ofG granted x)
def loansS (t : ScT) : List ScL × List Int := t.loans.foldl (fun s x => if grantS t s.1 x = true then (s.1 ++ [x], s.2 ++ [0]) else (s.1, s.2 ++ [210])) ([], [])
end Go.Dw
/- SC: chapter 11 with no program in sight: shows: how long, why not, which are kept. -/
namespace Go.Dw
open Go Go.Dx Go.Proofs
structure ScS where
  venue : Int
  print : Int
  pack : Int
  minute : Int
  speed : Int
  worth : Int
def ScSR (_ : Heap) (row : List Value) (s : ScS) : Prop := row = [i64 s.venue, i64 s.print, i64 s.pack, i64 s.minute, i64 s.speed, i64 s.worth]
structure ScS.Fit (s : ScS) : Prop where
  venue : I64 s.venue
  print : I64 s.print
  pack : I64 s.pack
  minute : I64 s.minute
  speed : I64 s.speed
  worth : I64 s.worth
def noPk : ScPk := ⟨[], [], [], 0, 0⟩
def venAt (t : ScT) (s : ScS) : ScV := t.venues.getD s.venue.toNat noV
def prAt (t : ScT) (s : ScS) : ScP := t.prints.getD s.print.toNat noP
def pkAt (t : ScT) (s : ScS) : ScPk := t.packs.getD s.pack.toNat noPk
def shownErr (t : ScT) (s : ScS) : Int :=
  if s.venue < 0 \/ (t.venues.length : Int) - 1 < s.venue then 4 else if (s.print = -1 ↔ s.pack = -1) then 2
  else if (s.print ≠ -1 /\ (s.print < 0 \/ (t.prints.length : Int) - 1 < s.print)) \/ (s.pack ≠ -1 /\ (s.pack < 0 \/ (t.packs.length : Int) - 1 < s.pack)) then 4
  else if (s.minute < 0 \/ 57600 < s.minute) \/ (s.speed < 1 \/ 60 < s.speed) \/ (s.worth < 0 \/ 1000000 < s.worth) then 7 else 0
def upS (a b : Int) : Int := (a + b - 1) / b
def secsS (l : List Int) (speed : Int) : Int := (l.map fun n => upS n speed).sum
def longS (t : ScT) (s : ScS) : Int :=
  if 0 <= s.pack then upS (upS (pkAt t s).frames s.speed) 60
  else if (venAt t s).proj < 2 then upS (secsS (prAt t s).reels s.speed) 60 + (venAt t s).change * (((prAt t s).reels.length : Int) - 1) else upS (secsS (prAt t s).reels s.speed) 60
def inSp (s all : Sp) : Prop := all.lo <= s.lo /\ s.hi <= all.hi
instance (s all : Sp) : Decidable (inSp s all) := inferInstanceAs (Decidable (_ /\ _))
def endS (t : ScT) (s : ScS) : Int := s.minute + longS t s
def daysS (t : ScT) (s : ScS) : Sp := ⟨t.first + s.minute / 1440, t.first + (endS t s - 1) / 1440⟩
def workS (t : ScT) (s : ScS) : List UInt8 := if 0 <= s.print then (prAt t s).work else (pkAt t s).work
def versS (t : ScT) (s : ScS) : List UInt8 := if 0 <= s.print then (prAt t s).version else (pkAt t s).version
def rightB (t : ScT) (s : ScS) : Bool := t.rights.any fun r => decide (r.work = workS t s /\ (r.version = [] \/ r.version = versS t s) /\ r.land = (venAt t s).land /\ inSp (daysS t s) r.days)
def hereB (t : ScT) (s : ScS) : Bool := (loansS t).1.any fun l => decide (l.print = s.print /\ l.venue = s.venue /\ inSp (daysS t s) l.days)
def filmS (t : ScT) (s : ScS) : Int :=
  if hereB t s = false then 212 else if (venAt t s).proj = 0 \/ ¬ ((venAt t s).speeds.lo <= s.speed /\ s.speed <= (venAt t s).speeds.hi) \/ ¬ ((prAt t s).speeds.lo <= s.speed /\ s.speed <= (prAt t s).speeds.hi) then 215
  else if ((prAt t s).reels.any fun n => decide ((venAt t s).spool < n)) = true then 216 else 0
def keyB (t : ScT) (s : ScS) : Bool := t.keys.any fun k => decide (k.pack = s.pack /\ k.venue = s.venue /\ inSp ⟨s.minute, endS t s⟩ k.window)
def digiS (t : ScT) (s : ScS) : Int :=
  if (venAt t s).digital = false then 213 else if keyB t s = false then 214 else if s.speed ≠ (pkAt t s).speed then 215 else 0
def whyS (t : ScT) (s : ScS) : Int := if rightB t s = false then 211 else if 0 <= s.print then filmS t s else digiS t s
def overS (t : ScT) (s : ScS) : Int := endS t s + (venAt t s).turn
def distB (t : ScT) (a b : ScS) : Bool := decide (a.venue = b.venue /\ a.minute < overS t b /\ b.minute < overS t a)
def busyS (t : ScT) (kept : List ScS) (s : ScS) : Int := if whyS t s ≠ 0 then whyS t s else if (kept.any fun k => distB t k s) = true then 217 else 0
def playS (t : ScT) (l : List ScS) : List ScS × List Int := l.foldl (fun p s => (if busyS t p.1 s = 0 then p.1 ++ [s] else p.1, p.2 ++ [busyS t p.1 s])) ([], [])
def listedS (t : ScT) (l : List ScS) : Int := if errSc t ≠ 0 then errSc t else if 40 < l.length then 3 else match l.find? fun s => decide (shownErr t s ≠ 0) with | some s => shownErr t s | none => 0
end Go.Dw
/- SD: chapter 11 with no program in sight: what is right with a task; how long shows take. -/
namespace Go.Dw
open Go Go.Dx Go.Proofs
theorem goNm_e {α : Type} {nm : α -> List UInt8} {wrong : α -> Int} : ∀ {l : List α} {i : Nat} {b : List (List UInt8)} {x : Nat × Int}, goNm nm wrong i b l = some x -> x.2 ≠ 0
  | [], _, _, _, h => nomatch h
  | a :: l, i, b, x, h => by
    rw [goNm] at h
    split at h
    · rename_i h1; cases h; exact h1
    · split at h
      · rename_i h1; cases h; exact h1
      · exact goNm_e h
theorem goNm_none {α : Type} {nm : α -> List UInt8} {wrong : α -> Int} : ∀ {l : List α} {i : Nat} {b : List (List UInt8)}, goNm nm wrong i b l = none -> ∀ x ∈ l, wrong x = 0
  | [], _, _, _, _, hx => nomatch hx
  | a :: l, i, b, h, x, hx => by
    rw [goNm] at h
    split at h
    · cases h
    · split at h
      · cases h
      · rename_i h1
        rcases List.mem_cons.1 hx with rfl | g
        · exact Classical.not_not.1 h1
        · exact goNm_none h x g
theorem goEa_e {α : Type} {wrong : α -> Int} : ∀ {l : List α} {i : Nat} {x : Nat × Int}, goEa wrong i l = some x -> x.2 ≠ 0
  | [], _, _, h => nomatch h
  | a :: l, i, x, h => by
    rw [goEa] at h
    split at h
    · rename_i h1; cases h; exact h1
    · exact goEa_e h
theorem goEa_none {α : Type} {wrong : α -> Int} : ∀ {l : List α} {i : Nat}, goEa wrong i l = none -> ∀ x ∈ l, wrong x = 0
  | [], _, _, _, hx => nomatch hx
  | a :: l, i, h, x, hx => by
    rw [goEa] at h
    split at h
    · cases h
    · rename_i h1
      rcases List.mem_cons.1 hx with rfl | g
      · exact Classical.not_not.1 h1
      · exact goEa_none h x g
theorem orE_zero {part : Int} {o : Option (Nat × Int)} {x : Int × Int × Int} (ho : ∀ y, o = some y -> y.2 ≠ 0) (h : (orE part o x).2.2 = 0) : o = none /\ x.2.2 = 0 := by
  cases o with
  | none => exact ⟨rfl, h⟩
  | some y => exact absurd h (ho y rfl)
structure ScOk (t : ScT) : Prop where
  first : 0 <= t.first /\ t.first <= 80000
  lands : 1 <= t.lands.length /\ t.lands.length <= 8
  venues1 : 1 <= t.venues.length /\ t.venues.length <= 8
  rights1 : t.rights.length <= 30
  prints1 : t.prints.length <= 12
  packs1 : t.packs.length <= 12
  keys1 : t.keys.length <= 30
  loans1 : t.loans.length <= 30
  travel : travelErr t = 0
  venues : ∀ v ∈ t.venues, venueErr t v = 0
  rights : ∀ r ∈ t.rights, rightErr t r = 0
  prints : ∀ p ∈ t.prints, printErr t p = 0
  packs : ∀ p ∈ t.packs, packErr p = 0
  keys : ∀ k ∈ t.keys, keyErr t k = 0
  loans : ∀ l ∈ t.loans, loanErr t l = 0
theorem sc_ok {t : ScT} (h : errSc t = 0) : ScOk t := by
  unfold errSc checkSc at h
  split at h
  · cases h
  rename_i h1
  split at h
  · cases h
  rename_i h2
  obtain ⟨_, h⟩ := orE_zero (fun _ => goNm_e) h
  split at h
  · rename_i h3; exact absurd h h3
  rename_i h3
  obtain ⟨a3, h⟩ := orE_zero (fun _ => goNm_e) h
  obtain ⟨a4, h⟩ := orE_zero (fun _ => goEa_e) h
  obtain ⟨a5, h⟩ := orE_zero (fun _ => goNm_e) h
  obtain ⟨a6, h⟩ := orE_zero (fun _ => goNm_e) h
  obtain ⟨a7, h⟩ := orE_zero (fun _ => goEa_e) h
  obtain ⟨a8, h⟩ := orE_zero (fun _ => goEa_e) h
  exact ⟨by omega, by omega, by omega, by omega, by omega, by omega, by omega, by omega, Classical.not_not.1 h3, goNm_none a3, goEa_none a4, goNm_none a5, goNm_none a6, goEa_none a7, goEa_none a8⟩
end Go.Dw
/- SN: chapter 11 with no program in sight: loans as the reference looks at them: the first way, the last way, and each between. -/
namespace Go.Dw
open Go Go.Dx Go.Proofs
def vlG (t : ScT) (y : ScL) : Int := venLand t y.venue
def badP (t : ScT) (a b : ScL) : Prop := trv t (vlG t a) (vlG t b) < 0 \/ b.days.lo - a.days.hi <= trv t (vlG t a) (vlG t b)
instance (t : ScT) (a b : ScL) : Decidable (badP t a b) := inferInstanceAs (Decidable (_ \/ _))
def chainG (t : ScT) : ScL -> List ScL -> Bool
  | _, [] => true
  | a, b :: l => !decide (badP t a b) && chainG t b l
def lastG : ScL -> List ScL -> ScL
  | a, [] => a
  | _, b :: l => lastG b l
theorem goG_chain {t : ScT} : ∀ {l : List ScL} {a : ScL}, goG t (vlG t a) (some a.days.hi) l = if chainG t a l = true then some (vlG t (lastG a l)) else none
  | [], a => rfl
  | b :: l, a => by
    have hs : stopG t (vlG t a) (some a.days.hi) b = decide (badP t a b) := by
      show (decide (trv t (vlG t a) (vlG t b) < 0) || decide (b.days.lo - a.days.hi <= trv t (vlG t a) (vlG t b))) = _
      rw [Bool.eq_iff_iff, Bool.or_eq_true, decide_eq_true_iff, decide_eq_true_iff, decide_eq_true_iff]
      exact Iff.rfl
    rw [goG, hs, chainG]
    by_cases c : badP t a b
    · rw [decide_eq_true c, if_pos rfl]; rfl
    · rw [decide_eq_false c, if_neg (by decide)]
      exact goG_chain (l := l) (a := b)
theorem canG_chain {t : ScT} {home : Int} {a : ScL} {l : List ScL} : canG t home (a :: l) = (decide (0 <= trv t home (vlG t a)) && chainG t a l && decide (0 <= trv t (vlG t (lastG a l)) home)) := by
  unfold canG
  rw [goG]
  have hs : stopG t home none a = decide (trv t home (vlG t a) < 0) := by unfold stopG vlG; rw [Bool.or_false]
  rw [hs]
  by_cases c : trv t home (vlG t a) < 0
  · rw [decide_eq_true c, if_pos rfl, decide_eq_false (show ¬ 0 <= trv t home (vlG t a) by omega)]; rfl
  · rw [decide_eq_false c, if_neg (by decide), decide_eq_true (show 0 <= trv t home (vlG t a) by omega), Bool.true_and]
    have := goG_chain (t := t) (a := a) (l := l)
    rw [show goG t (venLand t a.venue) (some a.days.hi) l = _ from this]
    by_cases d : chainG t a l = true
    · rw [if_pos d, d]; rfl
    · rw [if_neg d]
      rw [Bool.not_eq_true] at d
      rw [d]; rfl
theorem lastG_eq : ∀ {a : ScL} {l : List ScL}, lastG a l = (a :: l)[l.length]'(by simp)
  | _, [] => rfl
  | a, b :: l => by
    rw [lastG, lastG_eq (a := b) (l := l)]
    simp
theorem chainG_iff {t : ScT} : ∀ {a : ScL} {l : List ScL}, chainG t a l = true ↔ ∀ j (hj : j + 1 < (a :: l).length), ¬ badP t ((a :: l)[j]'(by omega)) (a :: l)[j + 1]
  | a, [] => by
    refine ⟨fun _ j hj => ?_, fun _ => rfl⟩
    simp at hj
  | a, b :: l => by
    rw [chainG, Bool.and_eq_true, chainG_iff (a := b) (l := l)]
    constructor
    · rintro ⟨h1, h2⟩ j hj
      cases j with
      | zero => simpa using h1
      | succ j => exact h2 j (by simpa using hj)
    · intro h
      refine ⟨by simpa using h 0 (by simp), fun j hj => ?_⟩
      exact h (j + 1) (by simpa using hj)
def awayG (t : ScT) (home : Int) (L : List ScL) : Prop := ∃ h : 0 < L.length, (trv t home (vlG t L[0]) < 0 \/ trv t (vlG t (L[L.length - 1]'(by omega))) home < 0) \/ ∃ j, ∃ hj : j + 1 < L.length, badP t (L[j]'(by omega)) L[j + 1]
theorem away_iff {t : ScT} {home : Int} {L : List ScL} (hL : 0 < L.length) : canG t home L = true ↔ ¬ awayG t home L := by
  cases L with
  | nil => simp at hL
  | cons a l =>
    rw [canG_chain, Bool.and_eq_true, Bool.and_eq_true, chainG_iff, lastG_eq]
    simp only [decide_eq_true_eq]
    unfold awayG
    constructor
    · rintro ⟨⟨h1, h2⟩, h3⟩ ⟨_, (g | g) | ⟨j, hj, g⟩⟩
      · simp at g; omega
      · simp at g; omega
      · exact h2 j hj g
    · intro h
      refine ⟨⟨?_, fun j hj g => h ⟨hL, .inr ⟨j, hj, g⟩⟩⟩, ?_⟩
      · refine Int.not_lt.1 fun g => h ⟨hL, .inl (.inl ?_)⟩
        simpa using g
      · refine Int.not_lt.1 fun g => h ⟨hL, .inl (.inr ?_)⟩
        simpa using g
theorem insG_at {g : ScL} : ∀ {L : List ScL} {k : Nat}, k <= L.length -> (∀ j (hj : j < L.length), j < k -> L[j].days.lo < g.days.lo) -> (∀ h : k < L.length, ¬ L[k].days.lo < g.days.lo) -> insG g L = L.take k ++ g :: L.drop k
  | [], k, hk, _, _ => by
    have : k = 0 := by simpa using hk
    subst this; rfl
  | a :: L, 0, _, _, h => by
    have h0 := h (by simp)
    unfold insG
    rw [List.takeWhile_cons_of_neg (by simpa using h0), List.dropWhile_cons_of_neg (by simpa using h0)]
    rfl
  | a :: L, k + 1, hk, h1, h2 => by
    have h0 := h1 0 (by simp) (by omega)
    have ih := insG_at (g := g) (L := L) (k := k) (by simpa using hk) (fun j hj hjk => h1 (j + 1) (by simpa using hj) (by omega)) (fun h => h2 (by simpa using h))
    unfold insG at ih ⊢
    rw [List.takeWhile_cons_of_pos (by simpa using h0), List.dropWhile_cons_of_pos (by simpa using h0)]
    rw [List.cons_append, ih]
    rfl
def ofGk (granted : List ScL) (x : ScL) (k : Nat) : List ScL := ofG (granted.take k) x
theorem ofGk_succ {granted : List ScL} {x : ScL} {k : Nat} (hk : k < granted.length) : ofGk granted x (k + 1) = if granted[k].print = x.print then insG granted[k] (ofGk granted x k) else ofGk granted x k := by
  unfold ofGk ofG
  have : granted.take (k + 1) = granted.take k ++ [granted[k]] := by rw [List.take_add_one, List.getElem?_eq_getElem hk]; rfl
  rw [this, List.foldl_append]; rfl
theorem insG_len (g : ScL) (L : List ScL) : (insG g L).length = L.length + 1 := (insG_perm g L).length_eq
theorem ofGk_len {granted : List ScL} {x : ScL} : ∀ {k : Nat}, k <= granted.length -> 1 <= (ofGk granted x k).length /\ (ofGk granted x k).length <= k + 1
  | 0, _ => by unfold ofGk ofG; simp
  | k + 1, hk => by
    have ih := ofGk_len (granted := granted) (x := x) (k := k) (by omega)
    rw [ofGk_succ (by omega)]
    split
    · rw [insG_len]; omega
    · omega
theorem ofGk_mem {granted : List ScL} {x : ScL} {k : Nat} : ∀ y ∈ ofGk granted x k, y = x \/ y ∈ granted := fun y hy => by
  have := ofG_perm.subset hy
  rcases List.mem_cons.1 this with e | g
  · exact .inl e
  · exact .inr (List.mem_of_mem_take (List.mem_filter.1 g).1)
end Go.Dw
