/- DwR: the logic, part 18: parts of the function's own slices, as sources. -/
import Derived.Sort.Grow
import Derived.ChangeArms
import Derived.RowKit3
import Derived.WalkKit
import Derived.ProofKit
import Derived.OpenShut
import Derived.Deep.DeepHandedRow
import Derived.ReadAgain
import Derived.ChangeStays
import Derived.Test.YtcjmpdpgfmjcgaaGreatDoorIG2
import Derived.Test.YtcjmpdpgfmjcgaaGreatDoorIG1
namespace Go.Dw
open Go Go.Dx
variable {P : Program}
theorem cut_le {vs : List Value} {o n : Nat} (h : o + n <= vs.length) : cut vs o n = some ((vs.drop o).take n) := by
 unfold cut
 have : Nat.ble (Nat.add o n) vs.length = true := Nat.ble_eq_true_of_le h
 rw [this]
theorem asrc_cells {h : Heap} {el tX : TypeId} {dd : TypeDesc} {b o n cap : Nat} {sp : Option Nat} {vs : List Value} {e : TypeId} {op : Bool} (hX : P.underlying tX = some dd) (hni : ∀ k, dd ≠ .int k) (hg : h.get b = some (.cells vs e op)) (hle : o + n <= vs.length) (hsp : sp = some 0 -> n ≠ 0) : asrc P el 1 tX (.slice (some ⟨b, o, sp⟩) n cap) h = some (n, (vs.drop o).take n) := by
 have hc := cut_le hle
 have hm : Nat.mul n 1 = n := Nat.mul_one n
 unfold asrc
 rw [hX]
 cases dd with
 | int k => exact absurd rfl (hni k)
 | _ =>
  cases n with
  | zero =>
   cases sp with
   | none => simp only [hg, Nat.mul, hc, List.take_zero]
   | some z =>
    cases z with
    | zero => exact absurd rfl (hsp rfl)
    | succ z => simp only [hg, Nat.mul, hc, List.take_zero]
  | succ n => simp only [hg, hm, hc]
theorem FreshSl.at3' {h0 h : Heap} {v : Value} {el : TypeId} {sz : Nat} {cs : List Value} {n : Nat} (ho : FreshSl h0 h v el sz cs n) {b : Nat} (hb : blkOf v = some b) : (∃ op, h.get b = some (.cells cs el op)) /\ h0.nx <= b := by
 rcases ho with ⟨rfl, _⟩ | ⟨b', sp, op, rfl, h2, _, h4, _⟩
 ·cases hb
 ·cases hb; exact ⟨⟨op, h2⟩, h4⟩
section
variable {h0 h : Heap} {v : Value} {el t tX : TypeId} {cs : List Value} {n k : Nat} {dd : TypeDesc}
theorem aslice_freshTo (ho : FreshSl h0 h v el 1 cs n) (hn : 0 < n) (ht : P.underlying t = some (.slice el)) (hz : tsz P el = some 1) (hX : P.underlying tX = some dd) (hni : ∀ k, dd ≠ .int k) (hk : k <= n) {kj : IntKind} : ∃ v', aslice P t v none (some (.int kj (k : Int))) none = some v' /\ ∀ h1 h0', FreshSl h0' h1 v el 1 cs n -> asrc P el 1 tX v' h1 = some (k, cs.take k) := by
 rcases ho with ⟨_, _, rfl⟩ | ⟨b, sp, op, rfl, h2, h3, h4, hsp⟩
 ·omega
 have hb : Nat.ble k n = true := Nat.ble_eq_true_of_le hk
 have hb0 : Nat.ble 0 k = true := Nat.ble_eq_true_of_le (Nat.zero_le _)
 have hb1 : Nat.ble n n = true := Nat.ble_eq_true_of_le (Nat.le_refl _)
 have c1 : bnd none n n = some n := by simp only [bnd, hb1]
 have c2 : bnd (some (.int kj (Int.ofNat k))) n n = some k := by simp only [bnd, natOf, hb]
 have c3 : bnd none 0 k = some 0 := by simp only [bnd, hb0]
 have c4 : sb n n none (some (.int kj (Int.ofNat k))) none = some (0, k, n) := by simp only [sb, c1, c2, c3]
 have hq : Nat.beq n 0 = false := by cases n with | zero => omega | succ n => rfl
 have hle : 0 + k <= cs.length := by omega
 rcases hsp with rfl | rfl
 ·refine ⟨.slice (some ⟨b, 0, none⟩) k n, ?_, ?_⟩
  ·unfold aslice
   rw [ht]
   simp only
   show (match sb n n none (some (.int kj (Int.ofNat k))) none, tsz P el with | some (l, h, m), some n => some (Value.slice (some ⟨b, @Bool.casesOn (fun _ => Nat) (Nat.beq m l) (Nat.add 0 (Nat.mul l n)) 0, none⟩) (Nat.sub h l) (Nat.sub m l)) | _, _ => none) = _
   rw [hz, c4]
   simp only [hq]
   rfl
  ·intro h1 h0' hF1
   obtain ⟨op2, h2⟩ : ∃ op, h1.get b = some (.cells cs el op) := (hF1.at3' rfl).1
   have := asrc_cells (cap := n) (sp := none) (P := P) (el := el) hX hni h2 hle (fun x => nomatch x)
   rw [this]; simp
 ·refine ⟨.slice (some ⟨b, 0, some 1⟩) k n, ?_, ?_⟩
  ·unfold aslice
   rw [ht]
   simp only
   show (match sb n n none (some (.int kj (Int.ofNat k))) none, tsz P el with | some (l, h, m), some n => _ | _, _ => none) = _
   rw [hz, c4]
   rfl
  ·intro h1 h0' hF1
   obtain ⟨op2, h2⟩ : ∃ op, h1.get b = some (.cells cs el op) := (hF1.at3' rfl).1
   have := asrc_cells (cap := n) (sp := some 1) (P := P) (el := el) hX hni h2 hle (fun x => by cases x)
   rw [this]; simp
theorem aslice_freshFrom (ho : FreshSl h0 h v el 1 cs n) (hn : 0 < n) (ht : P.underlying t = some (.slice el)) (hz : tsz P el = some 1) (hX : P.underlying tX = some dd) (hni : ∀ k, dd ≠ .int k) (hk : k <= n) {kj : IntKind} : ∃ v', aslice P t v (some (.int kj (k : Int))) none none = some v' /\ ∀ h1 h0', FreshSl h0' h1 v el 1 cs n -> asrc P el 1 tX v' h1 = some (n - k, cs.drop k) := by
 rcases ho with ⟨_, _, rfl⟩ | ⟨b, sp, op, rfl, h2, h3, h4, hsp⟩
 ·omega
 have hb : Nat.ble k n = true := Nat.ble_eq_true_of_le hk
 have hb1 : Nat.ble n n = true := Nat.ble_eq_true_of_le (Nat.le_refl _)
 have c1 : bnd none n n = some n := by simp only [bnd, hb1]
 have c3 : bnd (some (.int kj (Int.ofNat k))) 0 n = some k := by simp only [bnd, natOf, hb]
 have c4 : sb n n (some (.int kj (Int.ofNat k))) none none = some (k, n, n) := by simp only [sb, c1, c3]
 have htk : ∀ o, o = k -> (cs.drop o).take (n - k) = cs.drop k := fun o ho => by
  subst ho; exact List.take_of_length_le (by rw [List.length_drop]; omega)
 rcases Nat.lt_or_ge k n with hlt | hge
 ·have hq : Nat.beq n k = false := by
   cases hq : Nat.beq n k with
   | false => rfl
   | true => have := Nat.eq_of_beq_eq_true hq; omega
  have hbl : Nat.blt k n = true := by rw [Nat.blt_eq]; exact hlt
  rcases hsp with rfl | rfl
  ·refine ⟨.slice (some ⟨b, 0 + k * 1, none⟩) (n - k) (n - k), ?_, ?_⟩
   ·unfold aslice
    rw [ht]
    simp only
    show (match sb n n (some (.int kj (Int.ofNat k))) none none, tsz P el with | some (l, h, m), some n => some (Value.slice (some ⟨b, @Bool.casesOn (fun _ => Nat) (Nat.beq m l) (Nat.add 0 (Nat.mul l n)) 0, none⟩) (Nat.sub h l) (Nat.sub m l)) | _, _ => none) = _
    rw [hz, c4]
    simp only [hq]
    rfl
   ·intro h1 h0' hF1
    obtain ⟨op2, h2⟩ : ∃ op, h1.get b = some (.cells cs el op) := (hF1.at3' rfl).1
    have := asrc_cells (n := n - k) (o := 0 + k * 1) (cap := n - k) (sp := none) (P := P) (el := el) hX hni h2 (by omega) (fun x => nomatch x)
    rw [this, htk _ (by omega)]
  ·refine ⟨.slice (some ⟨b, match Nat.beq k 0 with | true => 0 | false => 0 + k * 1, some 1⟩) (n - k) (n - k), ?_, ?_⟩
   ·unfold aslice
    rw [ht]
    simp only
    show (match sb n n (some (.int kj (Int.ofNat k))) none none, tsz P el with | some (l, h, m), some n => _ | _, _ => none) = _
    rw [hz, c4]
    cases k with
    | zero => rfl
    | succ k =>
     simp only [hbl]
     rfl
   ·intro h1 h0' hF1
    obtain ⟨op2, h2⟩ : ∃ op, h1.get b = some (.cells cs el op) := (hF1.at3' rfl).1
    have := asrc_cells (n := n - k) (o := match Nat.beq k 0 with | true => 0 | false => 0 + k * 1) (cap := n - k) (sp := some 1) (P := P) (el := el) hX hni h2 (by cases k with | zero => show 0 + n <= _; omega | succ k => show 0 + (k + 1) * 1 + (n - (k + 1)) <= _; omega) (fun x => by cases x)
    rw [this, htk _ (by cases k with | zero => rfl | succ k => show 0 + (k + 1) * 1 = _; omega)]
 ·have hkn : k = n := by omega
  subst hkn
  have hq : Nat.beq k k = true := Nat.beq_refl k
  have hbl : Nat.blt k k = false := by
   cases hq : Nat.blt k k with
   | false => rfl
   | true => rw [Nat.blt_eq] at hq; omega
  rcases hsp with rfl | rfl
  ·refine ⟨.slice (some ⟨b, 0, none⟩) (k - k) (k - k), ?_, ?_⟩
   ·unfold aslice
    rw [ht]
    simp only
    show (match sb k k (some (.int kj (Int.ofNat k))) none none, tsz P el with | some (l, h, m), some n => some (Value.slice (some ⟨b, @Bool.casesOn (fun _ => Nat) (Nat.beq m l) (Nat.add 0 (Nat.mul l n)) 0, none⟩) (Nat.sub h l) (Nat.sub m l)) | _, _ => none) = _
    rw [hz, c4]
    simp only [hq]
    rfl
   ·intro h1 h0' hF1
    obtain ⟨op2, h2⟩ : ∃ op, h1.get b = some (.cells cs el op) := (hF1.at3' rfl).1
    have := asrc_cells (n := k - k) (o := 0) (cap := k - k) (sp := none) (P := P) (el := el) hX hni h2 (by omega) (fun x => nomatch x)
    rw [this]
    have : cs.drop k = [] := List.drop_of_length_le (by omega)
    rw [this]; simp
  ·refine ⟨.slice (some ⟨b, 0, some 0⟩) 0 0, ?_, ?_⟩
   ·unfold aslice
    rw [ht]
    simp only
    show (match sb k k (some (.int kj (Int.ofNat k))) none none, tsz P el with | some (l, h, m), some n => _ | _, _ => none) = _
    rw [hz, c4]
    cases k with
    | zero => omega
    | succ k =>
     simp only [hbl, hq]
     rfl
   ·intro h1 h0' hF1
    unfold asrc
    rw [hX]
    have : cs.drop k = [] := List.drop_of_length_le (by omega)
    rw [this, Nat.sub_self]
    cases dd <;> first | rfl | exact absurd rfl (hni _)
end
section
variable {h0 h : Heap} {v : Value} {el t tX : TypeId} {cs : List Value} {n k : Nat} {dd : TypeDesc} {ki : IntKind}
theorem A_freshTo (ho : FreshSl h0 h v el 1 cs n) (hn : 0 < n) (ht : P.underlying t = some (.slice el)) (hz : tsz P el = some 1) (hX : P.underlying tX = some dd) (hni : ∀ k, dd ≠ .int k) (hk : k <= n) : ∃ v', (∀ h1 h0', FreshSl h0' h1 v el 1 cs n -> asrc P el 1 tX v' h1 = some (k, cs.take k)) /\ ∀ {h' : Heap} {m : Mem} {d : Option Tmp} {ty : TypeId} {pos : String} {af : Array Edge} {gu : Option (Nat × Bool)} {x i : Operand}, opk h' m x = some v -> opk h' m i = some (.int ki (k : Int)) -> Aop P ⟨d, .slice t x none (some i) none, ty, pos, af, gu⟩ m h' v' h' := by
 obtain ⟨v', h1, h2⟩ := aslice_freshTo (kj := ki) ho hn ht hz hX hni hk
 refine ⟨v', h2, fun {h' m d ty pos af gu x i} hx hi => Aop_of fun e hs => ?_⟩
 show pSlice P _ h' e t x none (some i) none = _
 unfold pSlice
 simp only [opk_opv hs hx, opvo, opk_opv hs hi, h1]
theorem A_freshFrom (ho : FreshSl h0 h v el 1 cs n) (hn : 0 < n) (ht : P.underlying t = some (.slice el)) (hz : tsz P el = some 1) (hX : P.underlying tX = some dd) (hni : ∀ k, dd ≠ .int k) (hk : k <= n) : ∃ v', (∀ h1 h0', FreshSl h0' h1 v el 1 cs n -> asrc P el 1 tX v' h1 = some (n - k, cs.drop k)) /\ ∀ {h' : Heap} {m : Mem} {d : Option Tmp} {ty : TypeId} {pos : String} {af : Array Edge} {gu : Option (Nat × Bool)} {x i : Operand}, opk h' m x = some v -> opk h' m i = some (.int ki (k : Int)) -> Aop P ⟨d, .slice t x (some i) none none, ty, pos, af, gu⟩ m h' v' h' := by
 obtain ⟨v', h1, h2⟩ := aslice_freshFrom (kj := ki) ho hn ht hz hX hni hk
 refine ⟨v', h2, fun {h' m d ty pos af gu x i} hx hi => Aop_of fun e hs => ?_⟩
 show pSlice P _ h' e t x (some i) none none = _
 unfold pSlice
 simp only [opk_opv hs hx, opvo, opk_opv hs hi, h1]
end
end Go.Dw
/- DwS: the logic, part 19: what a function owns: things in memory of its own, apart from one another. -/
namespace Go.Dw
open Go Go.Dx
variable {P : Program}
structure It where
 S : Nat -> Prop
 p : Heap -> Prop
 loc : ∀ {h h' : Heap}, (∀ c o, S c -> h.get c = some o -> h'.get c = some o) -> p h -> p h'
 ex : ∀ {h : Heap} {c : Nat}, p h -> S c -> ∃ o, h.get c = some o
structure Own (h0 h : Heap) (l : List It) : Prop where
 has : ∀ x ∈ l, x.p h
 lo : ∀ x ∈ l, ∀ c, x.S c -> h0.nx <= c
 ap : l.Pairwise fun x y => ∀ c, x.S c -> ¬ y.S c
section
variable {h0 h h' : Heap} {l l' : List It} {x y z u : It}
theorem Own.nil (h0 h : Heap) : Own h0 h [] := ⟨fun _ hx => (List.not_mem_nil hx).elim, fun _ hx => (List.not_mem_nil hx).elim, .nil⟩
theorem Own.ext (hO : Own h0 h l) (he : Ext h h') : Own h0 h' l := ⟨fun x hx => x.loc (fun _ _ _ hg => he.get hg) (hO.has x hx), hO.lo, hO.ap⟩
theorem Own.tail (hO : Own h0 h (x :: l)) : Own h0 h l := ⟨fun y hy => hO.has y (List.mem_cons_of_mem _ hy), fun y hy => hO.lo y (List.mem_cons_of_mem _ hy), (List.pairwise_cons.1 hO.ap).2⟩
theorem Own.sub (hO : Own h0 h l) (hs : l'.Sublist l) : Own h0 h l' := ⟨fun x hx => hO.has x (hs.subset hx), fun x hx => hO.lo x (hs.subset hx), hO.ap.sublist hs⟩
theorem Own.perm (hO : Own h0 h l) (hp : l.Perm l') : Own h0 h l' :=
 ⟨fun x hx => hO.has x (hp.symm.subset hx), fun x hx => hO.lo x (hp.symm.subset hx), hp.pairwise hO.ap fun h c hy hx => h c hx hy⟩
theorem Own.p1 (hO : Own h0 h (x :: l)) : x.p h := hO.has x List.mem_cons_self
theorem Own.p2 (hO : Own h0 h (x :: y :: l)) : y.p h := hO.tail.p1
theorem Own.p3 (hO : Own h0 h (x :: y :: z :: l)) : z.p h := hO.tail.tail.p1
theorem Own.p4 (hO : Own h0 h (x :: y :: z :: u :: l)) : u.p h := hO.tail.tail.tail.p1
theorem Own.up2 (hO : Own h0 h (x :: y :: l)) : Own h0 h (y :: x :: l) := hO.perm (List.Perm.swap _ _ _)
theorem Own.up3 (hO : Own h0 h (x :: y :: z :: l)) : Own h0 h (z :: x :: y :: l) := hO.perm (((List.Perm.swap _ _ _).cons _).trans (List.Perm.swap _ _ _))
theorem Own.up4 (hO : Own h0 h (x :: y :: z :: u :: l)) : Own h0 h (u :: x :: y :: z :: l) := hO.perm ((((List.Perm.swap _ _ _).cons _).cons _).trans (((List.Perm.swap _ _ _).cons _).trans (List.Perm.swap _ _ _)))
theorem Own.dn2 (hO : Own h0 h (x :: y :: l)) : Own h0 h (y :: x :: l) := hO.up2
theorem Own.dn3 (hO : Own h0 h (x :: y :: z :: l)) : Own h0 h (y :: z :: x :: l) := hO.up3.up3
theorem Own.dn4 (hO : Own h0 h (x :: y :: z :: u :: l)) : Own h0 h (y :: z :: u :: x :: l) := hO.up4.up4.up4
theorem Own.put (hO : Own h0 h (x :: l)) (hw : WF h) (hn : h0.nx <= h.nx) (hX : Exb x.S h h') (hy : y.p h') (hs : ∀ c, y.S c -> x.S c \/ h.nx <= c) : Own h0 h' (y :: l) := by
 have h1 := List.pairwise_cons.1 hO.ap
 refine ⟨fun z hz => ?_, fun z hz c hc => ?_, List.pairwise_cons.2 ⟨fun z hz c hc hzc => ?_, h1.2⟩⟩
 ·rcases List.mem_cons.1 hz with rfl | hz
  ·exact hy
  ·exact z.loc (fun c o hc hg => hX.get (fun hxc => h1.1 z hz c hxc hc) hg) (hO.has z (List.mem_cons_of_mem _ hz))
 ·rcases List.mem_cons.1 hz with rfl | hz
  ·rcases hs c hc with g | g
   ·exact hO.lo x List.mem_cons_self c g
   ·exact Nat.le_trans hn g
  ·exact hO.lo z (List.mem_cons_of_mem _ hz) c hc
 ·rcases hs c hc with g | g
  ·exact h1.1 z hz c g hzc
  ·obtain ⟨o, ho⟩ := z.ex (hO.has z (List.mem_cons_of_mem _ hz)) hzc
   have := hw _ _ ho; omega
theorem Own.new (hO : Own h0 h l) (hw : WF h) (hn : h0.nx <= h.nx) (he : Ext h h') (hy : y.p h') (hs : ∀ c, y.S c -> h.nx <= c) : Own h0 h' (y :: l) := by
 refine ⟨fun z hz => ?_, fun z hz c hc => ?_, List.pairwise_cons.2 ⟨fun z hz c hc hzc => ?_, hO.ap⟩⟩
 ·rcases List.mem_cons.1 hz with rfl | hz
  ·exact hy
  ·exact z.loc (fun _ _ _ hg => he.get hg) (hO.has z hz)
 ·rcases List.mem_cons.1 hz with rfl | hz
  ·exact Nat.le_trans hn (hs c hc)
  ·exact hO.lo z hz c hc
 ·obtain ⟨o, ho⟩ := z.ex (hO.has z hz) hzc
  have h1 := hs c hc
  have := hw _ _ ho; omega
theorem Own.as (hO : Own h0 h (x :: l)) (hy : x.p h -> y.p h) (hs : ∀ c, y.S c -> x.S c) : Own h0 h (y :: l) := by
 have h1 := List.pairwise_cons.1 hO.ap
 refine ⟨fun z hz => ?_, fun z hz c hc => ?_, List.pairwise_cons.2 ⟨fun z hz c hc hzc => h1.1 z hz c (hs c hc) hzc, h1.2⟩⟩
 ·rcases List.mem_cons.1 hz with rfl | hz
  ·exact hy hO.p1
  ·exact hO.has z (List.mem_cons_of_mem _ hz)
 ·rcases List.mem_cons.1 hz with rfl | hz
  ·exact hO.lo x List.mem_cons_self c (hs c hc)
  ·exact hO.lo z (List.mem_cons_of_mem _ hz) c hc
theorem Own.merge (hO : Own h0 h (x :: y :: l)) (hz : x.p h -> y.p h -> z.p h) (hs : ∀ c, z.S c -> x.S c \/ y.S c) : Own h0 h (z :: l) := by
 have h1 := List.pairwise_cons.1 hO.ap
 have h2 := List.pairwise_cons.1 h1.2
 refine ⟨fun u hu => ?_, fun u hu c hc => ?_, List.pairwise_cons.2 ⟨fun u hu c hc huc => ?_, h2.2⟩⟩
 ·rcases List.mem_cons.1 hu with rfl | hu
  ·exact hz hO.p1 hO.p2
  ·exact hO.has u (List.mem_cons_of_mem _ (List.mem_cons_of_mem _ hu))
 ·rcases List.mem_cons.1 hu with rfl | hu
  ·rcases hs c hc with g | g
   ·exact hO.lo x List.mem_cons_self c g
   ·exact hO.lo y (List.mem_cons_of_mem _ List.mem_cons_self) c g
  ·exact hO.lo u (List.mem_cons_of_mem _ (List.mem_cons_of_mem _ hu)) c hc
 ·rcases hs c hc with g | g
  ·exact h1.1 u (List.mem_cons_of_mem _ hu) c g huc
  ·exact h2.1 u hu c g huc
theorem Own.grows (hO : Own h0 h (x :: l)) (hX : Exb x.S h h') (he : Ext h0 h) (hw : WF h0) : Ext h0 h' := hX.ext he hw fun c hc => hO.lo x List.mem_cons_self c hc
end
theorem FreshSl.got {h0 h : Heap} {v : Value} {el : TypeId} {sz : Nat} {cs : List Value} {n : Nat} (ho : FreshSl h0 h v el sz cs n) {b : Nat} (hb : blkOf v = some b) : ∃ op, h.get b = some (.cells cs el op) := by
 rcases ho with ⟨rfl, _⟩ | ⟨b', sp, op, rfl, h2, _⟩
 ·cases hb
 ·cases hb; exact ⟨op, h2⟩
def slI (h0 : Heap) (v : Value) (el : TypeId) (sz : Nat) (cs : List Value) (n : Nat) : It where
 S := fun c => blkOf v = some c
 p := fun h => FreshSl h0 h v el sz cs n
 loc := fun hk hp => hp.keep fun b o hb hg => hk b o hb hg
 ex := fun hp hc => by obtain ⟨op, h1⟩ := hp.got hc; exact ⟨_, h1⟩
def ceI (b : Nat) (vs : List Value) (el : TypeId) (op : Bool) : It where
 S := fun c => c = b
 p := fun h => h.get b = some (.cells vs el op)
 loc := fun hk hp => hk _ _ rfl hp
 ex := fun hp hc => ⟨_, hc ▸ hp⟩
def mapI {t : TypeId} {α : Type} [DecidableEq α] (K : KeyK P t α) (b : Nat) (l : List (α × Value)) : It where
 S := fun c => c = b
 p := fun h => MapB K h b l
 loc := fun hk hp => hp.some K fun o ho => hk _ _ rfl ho
 ex := fun hp hc => by obtain ⟨es, c, h1, _⟩ := hp; exact ⟨_, hc ▸ h1⟩
section
variable {h0 h h' : Heap} {l : List It} {v v' : Value} {el : TypeId} {sz : Nat} {cs cs' : List Value} {n n' : Nat} {b : Nat} {vs r : List Value} {op : Bool}
theorem Exb.keep (hK : Keep h h' (blkOf v)) (hn : h.nx <= h'.nx) (hg : h'.gl = h.gl) : Exb (slI h0 v el sz cs n).S h h' := ⟨fun b o hb hg => hK b o (fun e => hb e) hg, hn, hg⟩
theorem Exb.ofUpd {o : AO} (hU : Upd h b o h') : Exb (fun c => c = b) h h' := ⟨fun c _ hc hg => (hU.other c hc).trans hg, Nat.le_of_eq hU.nx.symm, hU.gl⟩
theorem Own.nilSl (hO : Own h0 h l) (el : TypeId) (sz : Nat) : Own h0 h (slI h0 (.slice none 0 0) el sz [] 0 :: l) := by
 have hno : ∀ c, ¬ (slI h0 (.slice none 0 0) el sz [] 0).S c := fun c hc => by cases (show blkOf (.slice none 0 0) = some c from hc)
 refine ⟨fun z hz => ?_, fun z hz c hc => ?_, List.pairwise_cons.2 ⟨fun z _ c hc => (hno c hc).elim, hO.ap⟩⟩
 ·rcases List.mem_cons.1 hz with rfl | hz
  ·exact FreshSl.nil _ _ _ _
  ·exact hO.has z hz
 ·rcases List.mem_cons.1 hz with rfl | hz
  ·exact (hno c hc).elim
  ·exact hO.lo z hz c hc
theorem Own.newSl (hO : Own h0 h l) (hw : WF h) (hn : h0.nx <= h.nx) (he : Ext h h') (hF : FreshSl h h' v el sz cs n) : Own h0 h' (slI h0 v el sz cs n :: l) :=
 hO.new hw hn he (hF.base hn) fun c hc => by
  rcases hF with ⟨rfl, _⟩ | ⟨b', sp, op, rfl, _, _, h4, _⟩
  ·cases (show blkOf (.slice none 0 0) = some c from hc)
  ·cases (show some b' = some c from hc); exact h4
theorem Own.newCe (hO : Own h0 h l) (hw : WF h) (hn : h0.nx <= h.nx) (he : Ext h h') (hg : h'.get b = some (.cells vs el op)) (hb : h.nx <= b) : Own h0 h' (ceI b vs el op :: l) :=
 hO.new hw hn he hg fun c hc => by rw [show c = b from hc]; exact hb
theorem Own.putSl (hO : Own h0 h (slI h0 v el sz cs n :: l)) (hw : WF h) (he0 : Ext h0 h) (hF : FreshSl h0 h' v' el sz cs' n') (he : Ext h0 h') (hK : Keep h h' (blkOf v)) (hnx : h.nx <= h'.nx) (hv : blkOf v' = blkOf v \/ ∃ b, blkOf v' = some b /\ h.nx <= b) : Own h0 h' (slI h0 v' el sz cs' n' :: l) :=
 hO.put hw he0.2.1 (Exb.keep hK hnx (he.2.2.trans he0.2.2.symm)) hF fun c (hc : blkOf v' = some c) => by
  rcases hv with e | ⟨b, e, hb⟩
  ·exact .inl (by show blkOf v = some c; rw [<- e]; exact hc)
  ·rw [e] at hc; cases hc; exact .inr hb
theorem Own.putCe (hO : Own h0 h (ceI b vs el op :: l)) (hw : WF h) (he0 : Ext h0 h) (hw0 : WF h0) (hU : Upd h b (.cells r el op) h') : Own h0 h' (ceI b r el op :: l) /\ Ext h0 h' :=
 ⟨hO.put hw he0.2.1 (Exb.ofUpd hU) hU.at' fun _ hc => .inl hc, hO.grows (Exb.ofUpd hU) he0 hw0⟩
end
section
variable {fr : Fr} {m : Mem} {ds : List ADef} {h : Heap} {Q : CQ} {ops : Array Oper} {lo : List Oper} {d : Nat} {ty : TypeId} {pos : String} {af : Array Edge} {gu : Option (Nat × Bool)}
theorem Wo_appendO {h0 : Heap} {I : List It} {tS tX el : TypeId} {sz by' : Nat} {c : Call} {s x : Operand} {v xv : Value} {cs l : List Value} {n k : Nat} {ts : List TypeId} (hw0 : WF h0) (he0 : Ext h0 h) (hg : gk ops.toList m gu = some true) (hlt : Nat.blt d fr.nt = true) (hc : c.callee = .builtin .append) (hargs : c.args = #[s, x]) (hat : c.argTypes.toList = tS :: tX :: ts) (hS : P.underlying tS = some (.slice el)) (hE : Elm P el sz by')
  (hs : opk h m s = some v) (hx : opk h m x = some xv) (hO : Own h0 h (slI h0 v el sz cs n :: I)) (hsrc : asrc P el sz tX xv h = some (k, l)) (hl : l.length = k * sz) (h1 : allOne l = true)
  (hb : (2 * (n + k) + 192) * by' <= 281474976710656) (hb2 : n + k < 281474976710656)
  (hk : ∀ v' h', WF h' -> Own h0 h' (slI h0 v' el sz (cs ++ l) (n + k) :: I) -> Ext h0 h' -> Wo P fr ops lo (upd m d v') ds h' Q) : Wo P fr ops (⟨some d, .call c, ty, pos, af, gu⟩ :: lo) m ds h Q :=
 Wo_wf fun hw => Wo_appendF hw0 he0 hg hlt hc hargs hat hS hE hs hx hO.p1 hsrc hl h1 hb hb2 fun v' h' hF hE' hK hx' hv => Wo_wf fun hw' => hk v' h' hw' (hO.putSl hw he0 hF hE' hK hx' hv) hE'
theorem Wo_storeO {h0 : Heap} {I : List It} {t : TypeId} {x y : Operand} {b o n : Nat} {v : Value} {vs r : List Value} {el : TypeId} {op : Bool} (hw0 : WF h0) (he0 : Ext h0 h) (hg : gk ops.toList m gu = some true) (ht : tsz P t = some n) (hx : opk h m x = some (.pointer (some ⟨b, o, none⟩))) (hy : opk h m y = some v) (hO : Own h0 h (ceI b vs el op :: I)) (hn : v.cells.toList.length = n) (h1 : allOne v.cells.toList = true) (hl : lay vs o v.cells.toList = some r)
  (hk : ∀ h1, WF h1 -> Own h0 h1 (ceI b r el op :: I) -> Ext h0 h1 -> Wo P fr ops lo m ds h1 Q) : Wo P fr ops (⟨none, .store t x y, ty, pos, af, gu⟩ :: lo) m ds h Q :=
 Wo_wf fun hw => Wo_store hg ht hx hy hO.p1 hn h1 hl fun h1 hU => Wo_wf fun hw1 => hk h1 hw1 (hO.putCe hw he0 hw0 hU).1 (hO.putCe hw he0 hw0 hU).2
variable {t : TypeId} {α : Type} [DecidableEq α] (K : KeyK P t α)
end
section
variable {fr : Fr} {m : Mem} {ds : List ADef} {h : Heap} {ops : Array Oper} {d : Option Tmp} {ty : TypeId} {pos : String} {af : Array Edge} {gu : Option (Nat × Bool)} {K Kp : Value -> List ADef -> Heap -> Prop}
end
end Go.Dw
/- DwT: the logic, part 20: contracts that speak of the model's worlds, taken over: all as it was; one row changed. -/
namespace Go.Dw
open Go Go.Dx
variable {P : Program}
theorem PostV_unch {ι : Iota} {h : Heap} {w w' : World} {v v' : Value} (hr : HR ι h w.heap) (hv : VR ι v v') (u : Unch w w') : PostV ι h w (.ret v h) (.returned v') w' := ⟨ι, v', rfl, hv, u.hr hr, u.adv⟩
theorem PostV_row {ι : Iota} {h : Heap} {w w' : World} {b : Nat} {bi : BI} {vs vs2 : List Value} {el : TypeId} {op : Bool} {c c2 : Array Value} {r r' : Value} (hr : HR ι h w.heap) (hg : h.get b = some (.cells vs el op)) (hi : ι b = some bi) (hc : w.heap[bi.blk]? = some (.cells c el (0, 0)))
  (hs : c2.size = c.size) (hl : vs2.length = vs.length) (hv : VRL ι vs2 (c2.toList.take vs2.length)) (hrv : VR ι r r') (hz : w.heap.size <= w'.heap.size) (hw : ∀ k, k < w.heap.size -> w'.heap[k]? = (w.heap.setIfInBounds bi.blk (.cells c2 el (0, 0)))[k]?) (hos : w'.os = w.os) (hout : w'.output = w.output) :
  PostV ι h w (.ret r (h.set b (.cells vs2 el op))) (.returned r') w' := by
 obtain ⟨bi', o', i1, i2, i3⟩ := hr.obj b _ hg
 rw [hi] at i1; cases i1
 rw [hc] at i2; cases i2
 simp only [OR] at i3
 obtain ⟨_, _, j1, j2, j3, _⟩ := i3
 obtain ⟨k1, k2⟩ := hr.set (o2 := .cells vs2 el op) (o2' := .cells c2 el (0, 0)) hg hi (by
  simp only [OR]
  exact ⟨trivial, trivial, by rw [hs]; exact j1, by rw [hl, hs]; exact j2, fun h => by rw [hl, hs]; exact j3 h, hv⟩)
 have u : Unch { w with heap := w.heap.setIfInBounds bi.blk (.cells c2 el (0, 0)) } w' := ⟨by simpa using hz, fun k hk => hw k (by simpa using hk), hos, hout⟩
 exact ⟨ι, r', rfl, hrv, u.hr k1, k2.trans u.adv⟩
theorem FreshSl.lies {ι : Iota} {h0 h : Heap} {w : World} {v v' : Value} {el : TypeId} {sz n : Nat} {cs : List Value} (hF : FreshSl h0 h v el sz cs n) (hr : HR ι h w.heap) (hv : VR ι v v') (hsz : 0 < sz) :
  (v = .slice none 0 0 /\ v' = .slice none 0 0 /\ cs = [] /\ n = 0) \/ ∃ b bi op cap c, blkOf v = some b /\ h.get b = some (.cells cs el op) /\ ι b = some bi /\ v' = .slice (some ⟨bi.blk, 0, none⟩) n cap /\ w.heap[bi.blk]? = some (.cells c el (0, 0)) /\ cs.length <= c.size /\ VRL ι cs (c.toList.take cs.length) /\ cs.length = n * sz ∧
   ∀ (h' : Heap) (cs' : List Value) (op' : Bool), cs'.length = cs.length -> h'.get b = some (.cells cs' el op') -> FreshSl h0 h' v el sz cs' n := by
 rcases hF with ⟨rfl, rfl, rfl⟩ | ⟨b, sp, op, rfl, g2, g3, g4, g5⟩
 ·cases hv with
  | sl0 => exact .inl ⟨rfl, rfl, rfl, rfl⟩
 ·obtain ⟨bi, o', i1, i2, i3⟩ := hr.obj b _ g2
  have key : ∃ cap, v' = .slice (some ⟨bi.blk, 0, none⟩) n cap := by
   cases hv with
   | sl h => rw [i1] at h; cases h; exact ⟨_, rfl⟩
   | slo h _ _ => rw [i1] at h; cases h; exact ⟨_, rfl⟩
   | sle b a c => rcases g5 with g | g <;> simp at g; omega
  obtain ⟨cap, rfl⟩ := key
  cases o' with
  | cells c e fz =>
   simp only [OR] at i3
   obtain ⟨rfl, rfl, j1, j2, j3, j4⟩ := i3
   exact .inr ⟨b, bi, op, cap, c, rfl, g2, i1, rfl, i2, j2, j4, g3, fun h' cs' op' hl hg => .inr ⟨b, sp, op', rfl, hg, by rw [hl]; exact g3, g4, g5⟩⟩
  | _ => simp only [OR] at i3
end Go.Dw
/- DwU: the logic, part 21: one among the owned things; cells of own slices set; ends of own slices. -/
namespace Go.Dw
open Go Go.Dx
variable {P : Program}
section
variable {h0 h h' : Heap} {A B l : List It} {x y : It}
theorem Own.mid (hO : Own h0 h (A ++ x :: B)) : Own h0 h (x :: (A ++ B)) := hO.perm List.perm_middle
theorem FreshSl.blk {v : Value} {el : TypeId} {sz n : Nat} {cs : List Value} (hF : FreshSl h0 h v el sz cs n) (hn : 0 < n) : ∃ b sp op, v = .slice (some ⟨b, 0, sp⟩) n n /\ h.get b = some (.cells cs el op) /\ cs.length = n * sz /\ h0.nx <= b := by
 rcases hF with ⟨_, _, rfl⟩ | ⟨b, sp, op, e, h2, h3, h4, _⟩
 ·omega
 ·exact ⟨b, sp, op, e, h2, h3, h4⟩
end
theorem asrc_list {h : Heap} {el tX : TypeId} {v : Value} {n : Nat} {l : List Value} {e0 : TypeId} (hX : P.underlying tX = some (.slice e0)) (ha : asrc P el 1 tX v h = some (n, l)) :
  ∃ a c, v = .slice a n c /\ ∀ i (hi : i < l.length), ∃ b o oa, a = some ⟨b, o, oa⟩ /\ cellAt h b (o + i * 1) = some l[i] := by
 unfold asrc at ha
 rw [hX] at ha
 simp only at ha
 have key : ∀ b o (r : List Value), rowAt h b o r.length = some r -> ∀ i (hi : i < r.length), ∃ b' o' oa, (some ⟨b, o, none⟩ : Option Addr) = some ⟨b', o', oa⟩ /\ cellAt h b' (o' + i * 1) = some r[i] := fun b o r hr i hi =>
  ⟨b, o, none, rfl, by rw [Nat.mul_one]; exact cell_of_row hr (by rw [nth_eq, List.getElem?_eq_getElem hi])⟩
 have hlen : ∀ {vs : List Value} {o k : Nat} {r : List Value}, cut vs o k = some r -> r.length = k := fun {vs o k r} hc => by
  unfold cut at hc
  cases hb : Nat.ble (Nat.add o k) vs.length with
  | false => rw [hb] at hc; cases hc
  | true =>
   rw [hb] at hc
   have := Nat.le_of_ble_eq_true hb
   simp only [Option.some.injEq] at hc
   rw [<- hc, List.length_take, List.length_drop]
   have : o + k <= vs.length := this
   omega
 split at ha
 ·cases ha; exact ⟨_, _, rfl, fun i hi => nomatch hi⟩
 ·cases ha; exact ⟨_, _, rfl, fun i hi => nomatch hi⟩
 ·rename_i b o sp n' c _ 
  split at ha
  ·rename_i vs el' op hg
   cases hc : cut vs o (Nat.mul n' 1) with
   | none => rw [hc] at ha; cases ha
   | some r =>
    rw [hc] at ha; cases ha
    have hl := hlen hc
    refine ⟨_, _, rfl, fun i hi => ⟨b, o, sp, rfl, ?_⟩⟩
    obtain ⟨b', o', oa, e, h2⟩ := key b o _ (rowAt_cells hg (by rw [hl]; exact hc)) i hi
    cases e; exact h2
  ·rename_i lim ob hg
   cases hc : rdo lim ob o (Nat.mul n' 1) with
   | none => rw [hc] at ha; cases ha
   | some r =>
    rw [hc] at ha; cases ha
    refine ⟨_, _, rfl, fun i hi => ⟨b, o, sp, rfl, ?_⟩⟩
    rw [Nat.mul_one]
    refine cell_of_row (n := Nat.mul n 1) (vs := l) ?_ (by rw [nth_eq, List.getElem?_eq_getElem hi])
    unfold rowAt; rw [hg]; exact hc
  ·cases ha
 ·cases ha
section
variable {h0 h : Heap} {v : Value} {el t tX : TypeId} {cs : List Value} {n k : Nat} {dd : TypeDesc} {ki : IntKind}
theorem A_freshDrop (ho : FreshSl h0 h v el 1 cs n) (hn : 0 < n) (ht : P.underlying t = some (.slice el)) (hz : tsz P el = some 1) (hk : k <= n) : ∃ a c, (∀ h1 h0', FreshSl h0' h1 v el 1 cs n -> ∀ i (hi : i < (cs.drop k).length), ∃ b o oa, a = some ⟨b, o, oa⟩ /\ cellAt h1 b (o + i * 1) = some (cs.drop k)[i]) ∧
  ∀ {h' : Heap} {m : Mem} {d : Option Tmp} {ty : TypeId} {pos : String} {af : Array Edge} {gu : Option (Nat × Bool)} {x i : Operand}, opk h' m x = some v -> opk h' m i = some (.int ki (k : Int)) -> Aop P ⟨d, .slice t x (some i) none none, ty, pos, af, gu⟩ m h' (.slice a (n - k) c) h' := by
 obtain ⟨v', h1, h2⟩ := A_freshFrom (P := P) (tX := t) (dd := .slice el) (ki := ki) ho hn ht hz ht (by intro k; simp) hk
 obtain ⟨a, c, rfl, _⟩ := asrc_list ht (h1 h h0 ho)
 refine ⟨a, c, fun hq h0' hF i hi => ?_, h2⟩
 obtain ⟨a', c', e, h3⟩ := asrc_list ht (h1 hq h0' hF)
 simp only [Value.slice.injEq] at e
 obtain ⟨rfl, _, _⟩ := e
 exact h3 i hi
end
theorem Wc_seq2 {fr : Fr} {m : Mem} {ds : List ADef} {h : Heap} {Q Q' : CQ} {a b c : Code} (h1 : Wc P fr a m ds h (Then P fr b Q')) (h2 : ∀ x m ds h, Q' x m ds h -> Then P fr c Q x m ds h) : Wc P fr (.seq a (.seq b c)) m ds h Q :=
 Wc_seq (h1.mono fun x _ _ _ hq => by
  cases x with
  | normal => exact Wc_seq (hq.mono h2)
  | _ => exact h2 _ _ _ _ hq)
def Then2 (P : Program) (fr : Fr) (b c : Code) (Q : CQ) : CQ := fun x m ds h =>
 match x with
 | .normal => Wc P fr b m ds h (Then P fr c Q)
 | x => Q x m ds h
theorem W1_wfK {fr : Fr} {ops : Array Oper} {o : Oper} {m : Mem} {ds : List ADef} {h : Heap} {K Kp : Value -> List ADef -> Heap -> Prop} (hW : W1 P fr ops o m ds h (fun v ds1 h1 => WF h1 -> K v ds1 h1) Kp) : W1 P fr ops o m ds h K Kp :=
 ⟨fun k ho e hs ι w a F hr hfr hF Kx Qx T => hW.w k ho e hs ι w a F hr hfr hF Kx Qx ⟨fun v ds1 h1 hK ι' v' a' w' e1 e2 e3 hr' e5 => T.normal v ds1 h1 (hK fun _ _ hg => hr_wf hr' hg) ι' v' a' w' e1 e2 e3 hr' e5, T.pan⟩⟩
end Go.Dw
/- DzA: the abstract heap that a world is read by: every block read-only, under its own number; a run over it is a contract. -/
namespace Go.Dx
variable {P : Program} {V : Nat -> Nat -> Bool}
noncomputable def roT (lim : Nat) : List Obj -> Nat -> Tr AO -> Tr AO
 | [], _, t => t
 | o :: l, k, t => roT lim l (k + 1) (tset t k (some (.ro lim o)))
theorem roT_get (lim : Nat) : ∀ (l : List Obj) (k : Nat) (t : Tr AO) (b : Nat), tget (roT lim l k t) b = if k <= b /\ b < k + l.length then (l[b - k]?).map (.ro lim) else tget t b := by
 intro l
 induction l with
 | nil => intro k t b; simp only [roT, List.length_nil]; rw [if_neg (by omega)]
 | cons o l ih =>
  intro k t b
  rw [roT, ih]
  by_cases h1 : k + 1 <= b /\ b < k + 1 + l.length
  ·rw [if_pos h1, if_pos (by simp; omega)]
   have : b - k = (b - (k + 1)) + 1 := by omega
   rw [this, List.getElem?_cons_succ]
  ·rw [if_neg h1]
   by_cases h2 : b = k
   ·subst h2; rw [tget_tset_same, if_pos (by simp)]; simp
   ·rw [tget_tset_other _ _ _ _ h2, if_neg (by simp; omega)]
noncomputable def roH (lim gl : Nat) (w : World) : Heap := ⟨roT lim w.heap.toList 0 .e, lim, gl⟩
theorem roH_get (lim gl : Nat) (w : World) (b : Nat) : (roH lim gl w).get b = (w.heap[b]?).map (.ro lim) := by
 show tget (roT lim w.heap.toList 0 .e) b = _
 rw [roT_get]
 by_cases h : b < w.heap.size
 ·rw [if_pos (by simpa using h)]; simp
 ·rw [if_neg (by simpa using h), tget_e]; simp [Array.getElem?_eq_none (Nat.le_of_not_lt h)]
def idI (lim : Nat) : Iota := fun b => if b < lim then some ⟨b, 0, 0⟩ else none
theorem idI_lt {lim b : Nat} (h : b < lim) : idI lim b = some ⟨b, 0, 0⟩ := if_pos h
theorem roH_HR {lim gl : Nat} {w : World} (hs : w.heap.size <= lim) (hg : gl <= lim) : HR (idI lim) (roH lim gl w) w.heap where
 obj := fun b o hb => by
  rw [roH_get] at hb
  cases hq : w.heap[b]? with
  | none => rw [hq] at hb; cases hb
  | some x =>
   rw [hq] at hb; cases hb
   have hlt : b < w.heap.size := (Array.getElem?_eq_some_iff.1 hq).1
   refine ⟨⟨b, 0, 0⟩, x, idI_lt (by omega), hq, ?_⟩
   simp only [OR]
   exact ⟨trivial, fun c hc => ⟨⟨c, 0, 0⟩, idI_lt hc, rfl⟩⟩
 inj := fun b b' o o' bi bi' h1 h2 i1 i2 heq => by
  unfold idI at i1 i2
  split at i1
  ·split at i2
   ·cases i1; cases i2; exact heq
   ·cases i2
  ·cases i1
 fresh := fun b bi hb => by
  unfold idI at hb
  split at hb
  ·assumption
  ·cases hb
 glo := fun g bi _ hb => by
  unfold idI at hb
  split at hb
  ·cases hb; rfl
  ·cases hb
 gn := hg
def Ext (h h' : Heap) : Prop := (∀ b o, h.get b = some o -> h'.get b = some o) /\ h.nx <= h'.nx /\ h'.gl = h.gl
theorem Ext.refl (h : Heap) : Ext h h := ⟨fun _ _ x => x, Nat.le_refl _, rfl⟩
theorem Ext.trans {h h1 h2 : Heap} (a : Ext h h1) (b : Ext h1 h2) : Ext h h2 := ⟨fun c o x => b.1 c o (a.1 c o x), Nat.le_trans a.2.1 b.2.1, b.2.2.trans a.2.2⟩
theorem grown_of_ro {lim gl : Nat} {w w' : World} {ι' : Iota} {h' : Heap} (ha : Adv (idI lim) (roH lim gl w) w ι' h' w') (hr : HR ι' h' w'.heap) (hs : w.heap.size <= lim) (he : Ext (roH lim gl w) h') : Unch w w' := by
 refine ⟨ha.sz, fun c hc => ?_, ha.os, ha.out⟩
 obtain ⟨x, hx⟩ : ∃ x, w.heap[c]? = some x := ⟨_, Array.getElem?_eq_getElem hc⟩
 obtain ⟨bi, o', i1, hw, ho⟩ := hr.obj c (.ro lim x) (he.1 _ _ (by rw [roH_get, hx]; rfl))
 have i2 := ha.sub c ⟨c, 0, 0⟩ (idI_lt (by omega))
 rw [i2] at i1; cases i1
 simp only [OR] at ho
 rw [hw, hx, ho.1]
end Go.Dx
/- DzB: arguments: out of the row's reader into the abstract heap in which the world itself is only read; a contract there is one of the row's. -/
namespace Go.Dw
open Go.Dx
variable {H : Type} {enc : TypeId × Value -> H} {P : Program} {W : World} {t e : TypeId} {cs : List Value}
noncomputable abbrev ro (W : World) : Heap := roH W.heap.size 0 W
def Rd (enc : TypeId × Value -> H) (P : Program) (W : World) (t : TypeId) (cs : List Value) : Prop := ∃ n x, DataW.trod enc P W 0 (fun _ => true) true n t cs = some x
theorem rd_int (ht : P.underlying t = some (.int .i64)) (h : Rd enc P W t cs) : ∃ n, cs = [i64 n] /\ I64 n := by
 obtain ⟨m, x, hx⟩ := h
 obtain ⟨n, h1, _, h3⟩ := DataW.trod_int ht hx
 refine ⟨n, h1, ?_⟩
 simp [Lit.wf] at h3
 have h4 : IntKind.i64.min = -9223372036854775808 := by decide
 have h5 : IntKind.i64.max = 9223372036854775807 := by decide
 omega
theorem rd_string (ht : P.underlying t = some .string) (h : Rd enc P W t cs) : ∃ s : List UInt8, cs = [str s] /\ Len s := by
 obtain ⟨m, x, hx⟩ := h
 obtain ⟨⟨⟨s⟩⟩, h1, _, h3⟩ := DataW.trod_string ht hx
 refine ⟨s, h1, ?_⟩
 have : s.length <= maxLen := h3
 have h5 : maxLen = 9223372036854775807 := by decide
 omega
theorem rd_struct {fs : Array Field} (ht : P.underlying t = some (.struct fs)) (h : Rd enc P W t cs) : cs.length = P.cellsOf t /\ ∀ (i : Nat) (f : Field), fs[i]? = some f -> Rd enc P W f.type ((cs.drop f.offset).take (P.cellsOf f.type)) := by
 obtain ⟨m, x, hx⟩ := h
 obtain ⟨xs, n, _, _, h1, h2, h3⟩ := DataW.trod_struct ht hx
 refine ⟨h1, fun i f hi => ?_⟩
 have := h3 i f hi
 have hlt : i < xs.length := by rw [h2]; exact (Array.getElem?_eq_some_iff.1 hi).1
 rw [List.getElem?_eq_getElem hlt] at this
 exact ⟨n, _, this⟩
theorem mapM_get {α β : Type} {f : α -> Option β} : ∀ {l : List α} {r : List β}, l.mapM f = some r -> l.length = r.length /\ ∀ (i : Nat) a, l[i]? = some a -> f a = r[i]? := by
 intro l
 induction l with
 | nil => intro r h; simp at h; subst h; exact ⟨rfl, fun i a h => by simp at h⟩
 | cons x l ih =>
  intro r h
  rw [List.mapM_cons] at h
  cases hx : f x with
  | none => rw [hx] at h; cases h
  | some y =>
   rw [hx] at h
   cases hl : l.mapM f with
   | none => rw [hl] at h; cases h
   | some ys =>
    rw [hl] at h
    cases h
    obtain ⟨h1, h2⟩ := ih hl
    refine ⟨by simp [h1], fun i a hi => ?_⟩
    cases i with
    | zero => simp at hi; subst hi; simpa using hx
    | succ i => simp at hi ⊢; exact h2 i a hi
theorem cells_cut {x : Addr} {n : Nat} {row : List Value} (h : W.cells? 0 x n = some row) (hn : 0 < n) : x.spot = none /\ ∃ c t fz, W.heap[x.block]? = some (.cells c t fz) /\ cut c.toList x.off n = some row := by
 unfold World.cells? at h
 rw [if_pos (Nat.zero_le _)] at h
 obtain ⟨h1, h2⟩ := mapM_get h
 have h1' : row.length = n := by simpa using h1.symm
 have key : ∀ i, i < n -> W.cell? (x.add i) = row[i]? := fun i hi => h2 i i (by simp [hi])
 have k0 := key 0 hn
 have e0 : x.add 0 = x := by simp [Addr.add]
 rw [e0, List.getElem?_eq_getElem (by omega)] at k0
 unfold World.cell? at k0
 cases hb : W.heap[x.block]? with
 | none => rw [hb] at k0; cases k0
 | some ob =>
  rw [hb] at k0
  cases ob with
  | cells c t fz =>
   simp only at k0
   have hsp : x.spot = none := by
    cases hs : x.spot with
    | none => rfl
    | some y => rw [hs] at k0; simp at k0
   refine ⟨hsp, c, t, fz, rfl, ?_⟩
   have hget : ∀ i, i < n -> c.toList[x.off + i]? = row[i]? := by
    intro i hi
    have := key i hi
    rw [<- this]
    unfold World.cell?
    have hblk : (x.add i).block = x.block := by unfold Addr.add; split <;> rfl
    have hspt : (x.add i).spot = none := by unfold Addr.add; split <;> simp [hsp]
    have hoff : (x.add i).off = x.off + i := by unfold Addr.add; split <;> simp_all
    rw [hblk, hb]
    simp only [hspt, hoff]
    simp
   have hlt : x.off + n <= c.toList.length := by
    have := hget (n - 1) (by omega)
    rw [List.getElem?_eq_getElem (show n - 1 < row.length by omega)] at this
    have := (List.getElem?_eq_some_iff.1 this).1
    omega
   unfold cut
   have hb2 : Nat.ble (Nat.add x.off n) c.toList.length = true := Nat.ble_eq_true_of_le hlt
   rw [hb2]
   simp only
   congr 1
   apply List.ext_getElem?
   intro i
   rw [List.getElem?_take]
   split
   ·rename_i hi
    rw [List.getElem?_drop]; exact hget i hi
   ·rename_i hi
    rw [List.getElem?_eq_none (by omega)]
  | _ => cases k0
theorem okv_sl {b o lim len cap : Nat} (h : Nat.blt b lim = true) : okv lim (.slice (some ⟨b, o, none⟩) len cap) = true := by
 cases len <;> cases cap <;> first | rfl | exact h
theorem rd_slice (ht : P.underlying t = some (.slice e)) (hz : 0 < P.cellsOf e) (h : Rd enc P W t cs) : ∃ v a len cap, cs = [v] /\ okv W.heap.size v = true /\ nz v = .slice a len cap /\ len < 9223372036854775808 ∧
  ∀ i, i < len -> ∃ b o, a = some ⟨b, o, none⟩ /\ ∃ row c t fz, W.heap[b]? = some (.cells c t fz) /\ cut c.toList (o + i * P.cellsOf e) (P.cellsOf e) = some row /\ Rd enc P W e row := by
 have h5 : maxLen = 9223372036854775807 := by decide
 obtain ⟨m, x, hx⟩ := h
 rcases DataW.trod_slice ht hx with ⟨h1, _⟩ | ⟨a, len, cap, elems, rest, n, _, h1, _, _, hlc, hcm, hel, he, hr, _⟩
 ·exact ⟨_, none, 0, 0, h1, rfl, rfl, by decide, fun i hi => by omega⟩
 ·have hread : ∀ i, i < cap -> ∃ row, W.cells? 0 (a.add (i * P.cellsOf e)) (P.cellsOf e) = some row /\ Rd enc P W e row := by
   intro i hi
   have : ∃ y, (W.cells? 0 (a.add (i * P.cellsOf e)) (P.cellsOf e)).bind (DataW.trod enc P W 0 (fun _ => true) true n e) = some y := by
    rcases Nat.lt_or_ge i len with g | g
    ·have := he i g
     rw [List.getElem?_eq_getElem (by omega)] at this
     exact ⟨_, this⟩
    ·obtain ⟨hr1, hr2⟩ := hr rfl
     have := hr2 (i - len) (by omega)
     rw [List.getElem?_eq_getElem (by omega), show len + (i - len) = i by omega] at this
     exact ⟨_, this⟩
   obtain ⟨y, hy⟩ := this
   cases hc : W.cells? 0 (a.add (i * P.cellsOf e)) (P.cellsOf e) with
   | none => rw [hc] at hy; cases hy
   | some row => rw [hc] at hy; exact ⟨row, rfl, n, y, hy⟩
  by_cases hcap : cap = 0
  ·have hlen : len = 0 := by omega
   subst hcap; subst hlen
   exact ⟨_, some ⟨0, 0, some 0⟩, 0, 0, h1, rfl, rfl, by decide, fun i hi => by omega⟩
  ·obtain ⟨row0, hc0, _⟩ := hread 0 (by omega)
   have e0 : a.add (0 * P.cellsOf e) = a := by simp [Addr.add]
   rw [e0] at hc0
   obtain ⟨hsp, c, t', fz, hb, _⟩ := cells_cut hc0 hz
   obtain ⟨b, o, sp⟩ := a
   simp only at hsp hb
   subst hsp
   have hlt : b < W.heap.size := (Array.getElem?_eq_some_iff.1 hb).1
   have hne : ¬ (len = 0 /\ cap = 0) := fun h => hcap h.2
   refine ⟨_, some ⟨b, o, none⟩, len, cap, h1, ?_, ?_, by omega, fun i hi => ⟨b, o, rfl, ?_⟩⟩
   ·have hbl : Nat.blt b W.heap.size = true := by rw [Nat.blt_eq]; exact hlt
    exact okv_sl hbl
   ·unfold nz
    split
    ·rename_i hq; simp only [Value.slice.injEq] at hq; exact absurd ⟨hq.2.1, hq.2.2⟩ hne
    ·rfl
   ·obtain ⟨row, hc, hrd⟩ := hread i (by omega)
    obtain ⟨_, c1, t1, fz1, hb1, hcut⟩ := cells_cut hc hz
    have hblk : ((⟨b, o, none⟩ : Addr).add (i * P.cellsOf e)).block = b := by unfold Addr.add; split <;> rfl
    have hoff : ((⟨b, o, none⟩ : Addr).add (i * P.cellsOf e)).off = o + i * P.cellsOf e := by unfold Addr.add; split <;> simp_all
    rw [hblk] at hb1
    rw [hoff] at hcut
    exact ⟨row, c1, t1, fz1, hb1, hcut, hrd⟩
theorem rd_slice0 (ht : P.underlying t = some (.slice e)) (hz : 0 < P.cellsOf e) (h : Rd enc P W t cs) : ∃ v a len cap, cs = [v] /\ nz v = .slice a len cap /\ (len = 0 -> a = none \/ (∃ b o, a = some ⟨b, o, some 0⟩) \/ ∃ b o c t fz, a = some ⟨b, o, none⟩ /\ W.heap[b]? = some (.cells c t fz) /\ o <= c.size) := by
 obtain ⟨m, x, hx⟩ := h
 rcases DataW.trod_slice ht hx with ⟨h1, _⟩ | ⟨a, len, cap, elems, rest, n, _, h1, _, _, hlc, hcm, hel, he, hr, _⟩
 ·exact ⟨_, none, 0, 0, h1, rfl, fun _ => .inl rfl⟩
 ·by_cases hcap : cap = 0
  ·have hlen : len = 0 := by omega
   subst hcap; subst hlen
   exact ⟨_, some ⟨0, 0, some 0⟩, 0, 0, h1, rfl, fun _ => .inr (.inl ⟨0, 0, rfl⟩)⟩
  ·have hread : ∃ row, W.cells? 0 a (P.cellsOf e) = some row := by
    have : ∃ y, (W.cells? 0 (a.add (0 * P.cellsOf e)) (P.cellsOf e)).bind (DataW.trod enc P W 0 (fun _ => true) true n e) = some y := by
     rcases Nat.lt_or_ge 0 len with g | g
     ·have := he 0 g
      rw [List.getElem?_eq_getElem (by omega)] at this
      exact ⟨_, this⟩
     ·obtain ⟨hr1, hr2⟩ := hr rfl
      have := hr2 (0 - len) (by omega)
      rw [List.getElem?_eq_getElem (by omega), show len + (0 - len) = 0 by omega] at this
      exact ⟨_, this⟩
    obtain ⟨y, hy⟩ := this
    have e0 : a.add (0 * P.cellsOf e) = a := by simp [Addr.add]
    rw [e0] at hy
    cases hc : W.cells? 0 a (P.cellsOf e) with
    | none => rw [hc] at hy; cases hy
    | some row => exact ⟨row, rfl⟩
   obtain ⟨row0, hc0⟩ := hread
   obtain ⟨hsp, c, t', fz, hb, hcut⟩ := cells_cut hc0 hz
   obtain ⟨b, o, sp⟩ := a
   simp only at hsp hb hcut
   subst hsp
   have hne : ¬ (len = 0 /\ cap = 0) := fun h => hcap h.2
   refine ⟨_, some ⟨b, o, none⟩, len, cap, h1, ?_, fun _ => .inr (.inr ⟨b, o, c, t', fz, rfl, hb, ?_⟩)⟩
   ·unfold nz
    split
    ·rename_i hq; simp only [Value.slice.injEq] at hq; exact absurd ⟨hq.2.1, hq.2.2⟩ hne
    ·rfl
   ·have := (cut_eq hcut).1
    have : c.toList.length = c.size := Array.length_toList
    omega
theorem ro_row {b o n : Nat} {row : List Value} {c : Array Value} {t : TypeId} {fz : Nat × Nat} (hb : W.heap[b]? = some (.cells c t fz)) (hc : cut c.toList o n = some row) (hok : row.all (okv W.heap.size) = true) : rowAt (ro W) b o n = some (row.map nz) := by
 unfold rowAt
 rw [roH_get, hb]
 simp only [Option.map_some]
 unfold rdo
 simp only [hc, hok]
theorem ro_cell {b o : Nat} {v : Value} {c : Array Value} {t : TypeId} {fz : Nat × Nat} (hb : W.heap[b]? = some (.cells c t fz)) (hc : cut c.toList o 1 = some [v]) (hok : okv W.heap.size v = true) : cellAt (ro W) b o = some (nz v) := by
 have := cell_of_row (k := 0) (v := nz v) (ro_row hb hc (by simp [hok])) rfl
 simpa using this
theorem list_of {α : Type} {R : Nat -> α -> Prop} {n : Nat} (h : ∀ i, i < n -> ∃ x, R i x) : ∃ l : List α, l.length = n /\ ∀ i (hi : i < l.length), R i l[i] := by
 induction n with
 | zero => exact ⟨[], rfl, fun i hi => by simp at hi⟩
 | succ n ih =>
  obtain ⟨l, h1, h2⟩ := ih fun i hi => h i (by omega)
  obtain ⟨x, hx⟩ := h n (by omega)
  refine ⟨l ++ [x], by simp [h1], fun i hi => ?_⟩
  rcases Nat.lt_or_ge i l.length with g | g
  ·rw [List.getElem_append_left g]; exact h2 i g
  ·have : i = n := by simp at hi; omega
   subst this
   subst h1
   simpa using hx
theorem rd_list {α : Type} {encA : α -> Value} {Fit : α -> Prop} (ht : P.underlying t = some (.slice e)) (hz : P.cellsOf e = 1) (hel : ∀ row, Rd enc P W e row -> ∃ x v, row = [v] /\ okv W.heap.size v = true /\ nz v = encA x /\ Fit x) (h : Rd enc P W t cs) :
  ∃ v a l cap, cs = [v] /\ okv W.heap.size v = true /\ nz v = .slice a l.length cap /\ ListAt encA (ro W) a l /\ Len l /\ ∀ x ∈ l, Fit x := by
 obtain ⟨v, a, len, cap, h1, h2, h3, h4, h5⟩ := rd_slice ht (by omega) h
 have : ∀ i, i < len -> ∃ x, (∃ b o, a = some ⟨b, o, none⟩ /\ cellAt (ro W) b (o + i * 1) = some (encA x)) /\ Fit x := by
  intro i hi
  obtain ⟨b, o, ha, row, c, t', fz, hb, hc, hrd⟩ := h5 i hi
  obtain ⟨x, v, rfl, ok, hx, hf⟩ := hel row hrd
  rw [hz] at hc
  exact ⟨x, ⟨b, o, ha, by rw [<- hx]; exact ro_cell hb hc ok⟩, hf⟩
 obtain ⟨l, hl, hR⟩ := list_of this
 subst hl
 refine ⟨v, a, l, cap, h1, h2, h3, fun i hi => ?_, h4, fun x hx => ?_⟩
 ·obtain ⟨⟨b, o, ha, hc⟩, _⟩ := hR i hi
  exact ⟨b, o, none, ha, hc⟩
 ·obtain ⟨i, hi, rfl⟩ := List.getElem_of_mem hx
  exact (hR i hi).2
theorem rd_ints (ht : P.underlying t = some (.slice e)) (he : P.underlying e = some (.int .i64)) (hz : P.cellsOf e = 1) (h : Rd enc P W t cs) :
  ∃ v a l cap, cs = [v] /\ okv W.heap.size v = true /\ nz v = .slice a l.length cap /\ IntsAt (ro W) a l /\ Len l /\ ∀ x ∈ l, I64 x :=
 rd_list (encA := i64) (Fit := I64) ht hz (fun row hr => by
  obtain ⟨n, h1, h2⟩ := rd_int he hr
  exact ⟨n, _, h1, rfl, rfl, h2⟩) h
theorem rd_rows {α : Type} {R : Heap -> List Value -> α -> Prop} {Fit : α -> Prop} {k : Nat} (ht : P.underlying t = some (.slice e)) (hz : P.cellsOf e = k) (hk : 0 < k) (hel : ∀ row, Rd enc P W e row -> ∃ x, row.all (okv W.heap.size) = true /\ R (ro W) (row.map nz) x /\ Fit x) (h : Rd enc P W t cs) :
  ∃ v a l cap, cs = [v] /\ okv W.heap.size v = true /\ nz v = .slice a l.length cap /\ RowsAt k R (ro W) a l /\ Len l /\ ∀ x ∈ l, Fit x := by
 obtain ⟨v, a, len, cap, h1, h2, h3, h4, h5⟩ := rd_slice ht (by omega) h
 have : ∀ i, i < len -> ∃ x, (∃ b o, a = some ⟨b, o, none⟩ /\ ∃ row, rowAt (ro W) b (o + i * k) k = some row /\ R (ro W) row x) /\ Fit x := by
  intro i hi
  obtain ⟨b, o, ha, row, c, t', fz, hb, hc, hrd⟩ := h5 i hi
  obtain ⟨x, ok, hx, hf⟩ := hel row hrd
  rw [hz] at hc
  exact ⟨x, ⟨b, o, ha, _, ro_row hb hc ok, hx⟩, hf⟩
 obtain ⟨l, hl, hR⟩ := list_of this
 subst hl
 refine ⟨v, a, l, cap, h1, h2, h3, fun i hi => ?_, h4, fun x hx => ?_⟩
 ·obtain ⟨⟨b, o, ha, row, hc, hx⟩, _⟩ := hR i hi
  exact ⟨b, o, none, ha, row, hc, hx⟩
 ·obtain ⟨i, hi, rfl⟩ := List.getElem_of_mem hx
  exact (hR i hi).2
theorem calls_of_sv {f : FuncId} {args : List Value} {args' : Array Value} (hs : Sv P f args (ro W) (RetP fun v h' => v = .bool true /\ Ext (ro W) h')) (hv : VRL (idI W.heap.size) args args'.toList) :
  Calls P f args' W fun e W' => e = .returned (.bool true) /\ Unch W W' := by
 refine (hs.w (idI W.heap.size) W args' (roH_HR (Nat.le_refl _) (Nat.zero_le _)) hv).mono ?_
 rintro en w' ⟨r, hR, hP⟩
 cases r with
 | ret v h' =>
  obtain ⟨rfl, he⟩ := hR
  obtain ⟨ι', v', rfl, hvv, hr, ha⟩ := hP
  cases hvv
  exact ⟨rfl, grown_of_ro ha hr (Nat.le_refl _) ⟨he.1, he.2.1, he.2.2⟩⟩
 | pan v h' => exact hR.elim
 | no => exact hR.elim
theorem okv_vrl {l : List Value} (h : l.all (okv W.heap.size) = true) : VRL (idI W.heap.size) (l.map nz) l := okv_all (fun b hb => ⟨⟨b, 0, 0⟩, idI_lt hb, rfl⟩) h
end Go.Dw
/- DzD: reading a slice of integers with its room. -/
namespace Go.Dw
open Go Go.Dx
variable {P : Program} {H : Type} {enc : TypeId × Value -> H} {W : World} {cs : List Value} {t e : TypeId}
theorem rd_sliceC (ht : P.underlying t = some (.slice e)) (h : Rd enc P W t cs) : ∃ v a len cap, cs = [v] /\ nz v = .slice a len cap /\ len <= cap := by
 obtain ⟨m, x, hx⟩ := h
 rcases DataW.trod_slice ht hx with ⟨h1, _⟩ | ⟨a, len, cap, elems, rest, n, _, h1, _, _, hlc, hcm, hel, he, hr, _⟩
 ·exact ⟨_, none, 0, 0, h1, rfl, Nat.le_refl _⟩
 ·by_cases hne : len = 0 /\ cap = 0
  ·obtain ⟨rfl, rfl⟩ := hne
   exact ⟨_, some ⟨0, 0, some 0⟩, 0, 0, h1, rfl, Nat.le_refl _⟩
  ·refine ⟨_, some a, len, cap, h1, ?_, hlc⟩
   unfold nz
   split
   ·rename_i hq; simp only [Value.slice.injEq] at hq; exact absurd ⟨hq.2.1, hq.2.2⟩ hne
   ·rfl
end Go.Dw
/- DzC: what a row asks behind the call, where the answer is 'true' and all that was there is as it was. -/
namespace Go.Dw
open Go.Dx Go.ChangeShapes Go.WideShapes Go.ChangeAt Go.RowKit
variable {H : Type} {enc : TypeId × Value -> H} {P : Program} {W W' : World}
theorem trodAll_stays {T : TypeId -> Prop} {sp : Nat -> Bool} (K : Kids P T) (hz : ∀ t e, T t -> P.underlying t = some (.slice e) -> 0 < P.cellsOf e) : ∀ {ts : List TypeId} {vs : List Value} {ds : List (DataW H)} {ps : List MemPlace}, (∀ t ∈ ts, T t) -> DataW.TrodAll enc P W 0 (fun _ => true) true ts vs ds ps -> (∀ p ∈ ps, W.sameAt W' p) -> (∀ p ∈ ps, sp p.block = true) -> DataW.TrodAll enc P W' 0 sp true ts vs ds ps
 | [], [], [], _, _, h, _, _ => h
 | t :: ts, v :: vs, d :: ds, _, hT, ⟨p, q, ⟨n, h1⟩, h2, e⟩, hw, hs => by
  subst e
  refine ⟨p, q, ⟨n, DataW.trod_stays (x := (d, p)) K (fun a b => hz _ _ a b) (fun h => by cases h) (hT t List.mem_cons_self) h1 (fun x hx => hw x (List.mem_append_left _ hx)) (fun x hx => hs x (List.mem_append_left _ hx))⟩, ?_, rfl⟩
  exact trodAll_stays K hz (fun t ht => hT t (List.mem_cons_of_mem _ ht)) h2 (fun x hx => hw x (List.mem_append_right _ hx)) (fun x hx => hs x (List.mem_append_right _ hx))
theorem sameAt_of (hu : Unch W W') : ∀ p : MemPlace, p.block < W.heap.size -> W.sameAt W' p
 | .cell b off, hp => by
  have : W'.heap[b]? = W.heap[b]? := hu.same b hp
  simp only [World.sameAt, World.cell?, this]
 | .map b, hp => hu.same b hp
theorem unch_kept (u : Unch W W') (may : MemPlace -> Prop) : W.keptBut W' may := by
 refine ⟨u.os, u.out, fun i hi => ?_⟩
 rw [u.same i hi]
 cases hq : W.heap[i]? with
 | none => rfl
 | some o => cases o <;> first | rfl | exact ⟨rfl, rfl, rfl, fun _ _ => rfl⟩ | exact .inr ⟨rfl, rfl⟩
theorem post_of_unch {f : Func} {s : ChangeSpec} {args : Array Value} {v : Value} {ds gs : List (DataW H)} {before pa pv : List MemPlace}
  (hW : DataW.Whole enc P f.params.toList s.vars false W args.toList ds gs before)
  (hres : ∀ (b : Nat) (sp : Nat -> Bool) (hd : Bool), DataW.TrodAll enc P W' b sp hd f.resultTypes.toList (v.resultList f.resultTypes.size) (s.fn H (ds ++ gs)).results [])
  (hargs : ∀ sp : Nat -> Bool, (∀ p ∈ before, sp p.block = true) -> DataW.TrodAll enc P W' 0 sp true f.params.toList args.toList (s.fn H (ds ++ gs)).args pa)
  (hvars : ∀ sp : Nat -> Bool, (∀ p ∈ before, sp p.block = true) -> DataW.TrodVars enc P W' sp s.vars (s.fn H (ds ++ gs)).vars pv)
  (hu : Unch W W') : s.post enc P f false true false false W args v W' := by
 have hlt := hW.lt
 have hold : ∀ p ∈ before, (fun b => decide (b < W.heap.size)) p.block = true := fun p hp => by simpa using hlt p hp
 exact ⟨ds, gs, before, [], pa, pv, hW, hres _ _ _, hargs _ hold, hvars _ hold, unch_kept hu _, fun h => nomatch h⟩
theorem post_bool {fn : Func} {s : ChangeSpec} {args : Array Value} {ds : List (DataW H)} {before : List MemPlace} {T : TypeId -> Prop} (K : Kids P T) (hz : ∀ t e, T t -> P.underlying t = some (.slice e) -> 0 < P.cellsOf e) (hT : ∀ t ∈ fn.params.toList, T t)
  (hW : DataW.Whole enc P fn.params.toList s.vars false W args.toList ds [] before) (hv : s.vars = []) (hres : (s.fn H (ds ++ [])).results = [.lit (.bool true)]) (hargs : (s.fn H (ds ++ [])).args = ds) (hvr : (s.fn H (ds ++ [])).vars = [])
  (hrt : fn.resultTypes = #[4]) (h4 : P.underlying 4 = some .bool) (hu : Unch W W') : s.post enc P fn false true false false W args (.bool true) W' := by
 have hW' := hW
 obtain ⟨p, q, hA, hV, rfl, _, _⟩ := hW
 rw [hv] at hV
 obtain ⟨_, rfl⟩ := trodVars_none hV
 rw [List.append_nil] at hW'
 refine post_of_unch (pa := p) (pv := []) hW' (fun _ _ _ => ?_) (fun sp hsp => ?_) (fun _ _ => ?_) hu
 ·rw [hres, hrt]; exact trodAll_cons_mk (shut_bool h4 _) trodAll_mk0
 ·rw [hargs]
  exact trodAll_stays K hz hT hA (fun x hx => sameAt_of hu x (hW'.lt x hx)) (fun x hx => hsp x hx)
 ·rw [hv, hvr]; exact rfl
end Go.Dw
