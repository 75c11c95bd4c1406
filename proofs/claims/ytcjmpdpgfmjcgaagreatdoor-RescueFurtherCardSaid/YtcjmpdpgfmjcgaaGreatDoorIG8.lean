/- J2: contracts of small functions of chapter 04: must, Contains, has, turned, valid, indices, with. -/
import Derived.Test.YtcjmpdpgfmjcgaaGreatDoorIG2
import Derived.Test.YtcjmpdpgfmjcgaaGreatDoorIG6
import Derived.Test.YtcjmpdpgfmjcgaaGreatDoorIG7
namespace Go.Dw
open Go Go.Dx Go.Proofs
set_option maxRecDepth 100000
section
variable {P : Program} {fr : Fr} {m : Mem} {ds : List ADef} {h : Heap} {Q : CQ} {ops : Array Oper} {l : List Oper} {o : Oper}
theorem Wo_callM {c : Call} {f : Operand} {g : FuncId} {first cap args : List Value} {b : Bool} {pv : Value} {d : Nat} (hg : gk ops.toList m o.guard = some true) (hop : o.op = .call c) (hcal : c.callee = .value f) (hf : opk h m f = some (.func (.func g) ⟨first⟩ ⟨cap⟩)) (ha : opkl h m c.args.toList = some args)
  (hb : bodied P g = true) (hd : o.dst = some d) (hlt : Nat.blt d fr.nt = true) (hv : Sv P g (first ++ (args ++ cap)) h (fun r => if b = true then r = .ret (.tuple ⟨[]⟩) h else r = .pan pv h))
  (ht : b = true -> Wo P fr ops l (upd m d (.tuple ⟨[]⟩)) ds h Q) (hn : b = false -> Q (.pan pv) m ds h) : Wo P fr ops (o :: l) m ds h Q := by
 refine Wo_call hg hop hcal hf ha hb hv (fun v h1 hR e hs => ?_) (fun v h1 hR => ?_)
 ·cases b
  ·simp at hR
  ·simp at hR
   obtain ⟨rfl, rfl⟩ := hR
   exact ⟨putE VT fr.fn d _ e, upd m d _, by simp only [fin, put, hd, hlt], hs.put fr.fn d _, ht rfl⟩
 ·cases b
  ·simp at hR
   obtain ⟨rfl, rfl⟩ := hR
   exact hn rfl
  ·simp at hR
theorem W1_callM {K Kp : Value -> List ADef -> Heap -> Prop} {c : Call} {f : Operand} {g : FuncId} {first cap args : List Value} {b : Bool} {pv : Value} (hg : gk ops.toList m o.guard = some true) (hop : o.op = .call c) (hcal : c.callee = .value f) (hf : opk h m f = some (.func (.func g) ⟨first⟩ ⟨cap⟩)) (ha : opkl h m c.args.toList = some args)
  (hb : bodied P g = true) (hv : Sv P g (first ++ (args ++ cap)) h (fun r => if b = true then r = .ret (.tuple ⟨[]⟩) h else r = .pan pv h))
  (ht : b = true -> K (.tuple ⟨[]⟩) ds h) (hn : b = false -> Kp pv ds h) : W1 P fr ops o m ds h K Kp := by
 refine W1_call hg hop hcal hf ha hb hv (fun v h1 hR => ?_) (fun v h1 hR => ?_)
 ·cases b
  ·simp at hR
  ·simp at hR
   obtain ⟨rfl, rfl⟩ := hR
   exact ht rfl
 ·cases b
  ·simp at hR
   obtain ⟨rfl, rfl⟩ := hR
   exact hn rfl
  ·simp at hR
end
abbrev errV (e : Int) : Value := .iface 26 (i64 e)
theorem must_sv (b : Bool) (e : Int) (h : Heap) : Sv Tryz.prog 73 [.bool b, i64 e] h (fun r => if b = true then r = .ret (.tuple ⟨[]⟩) h else r = .pan (errV e) h) := by
 refine Sv_enterR Tryz.func73 rfl (by rw [Tryz.ntmps73]; rfl) ?_
 show Wc Tryz.prog ⟨73, 8, none⟩ _ _ _ _ _
 cases b
 ·refine zz ?_
  refine Wo_do rfl rfl rfl rfl (A_iface rfl) ?_
  refine Wo_panic rfl rfl ?_
  exact LvR_pan (by simp)
 ·refine zz ?_
  exact LvR_ret rfl (by simp; rfl)
theorem indexI_sv {a : Option Addr} {cap : Nat} {l : List Int} {n : Int} {h : Heap} (hl : IntsAt h a l) (hlen : Len l) : Sv Tryz.prog 149 [.slice a l.length cap, i64 n] h (RetP fun v h' => v = i64 (firstI (fun x => decide (x = n)) l) /\ h' = h) := by
 refine Sv_enter Tryz.func149 rfl (by rw [Tryz.ntmps149]; rfl) ?_; show Wc Tryz.prog ⟨149, 19, none⟩ _ _ _ _ _
 refine zz ?_
 refine Wc_loop (fun (k : Nat) m ds h' => ds = [] /\ h' = h /\ k <= l.length /\ (∀ j (hj : j < l.length), j < k -> l[j] ≠ n) /\ AllK m [(0, .slice a l.length cap), (1, i64 n), (7, i64 l.length), (8, i64 k)]) (fun k => l.length - k) 0 ?_ ?_
 ·exact ⟨rfl, rfl, Nat.zero_le _, (fun _ _ hj => by omega), rfl, rfl, rfl, rfl, trivial⟩
 rintro k m ds h' ⟨rfl, rfl, hk, hno, hall⟩
 refine Wc.le ?_ (Le.kn hall)
 refine zz ?_
 refine Wo_dec rfl rfl rfl rfl (A_lss rfl rfl) (fun h1 => ?_) (fun h1 => ?_)
 ·have hk' : k < l.length := by simpa using h1
  obtain ⟨b, o, oa, rfl, hc⟩ := hl k hk'
  refine zz ?_
  refine Wo_do rfl rfl rfl rfl (A_ix Und.h Tsz.h rfl rfl) ?_
  refine zz ?_
  refine Wo_dec rfl rfl rfl rfl (A_eql rfl rfl) (fun h2 => ?_) (fun h2 => ?_)
  ·refine zz ?_
   refine Wc_ret (Lv_ret rfl ⟨?_, rfl⟩)
   have : l.findIdx? (fun x => decide (x = n)) = some k := by
    rw [List.findIdx?_eq_some_iff_getElem]
    exact ⟨hk', decide_eq_true h2.symm, fun j hj => by simp [hno j (by omega) hj]⟩
   simp [firstI, this]; rfl
  ·refine zz ?_
   refine ⟨k + 1, ?_, rfl, rfl, hk', ?_, rfl, rfl, rfl, rfl, trivial⟩
   ·show l.length - (k + 1) < l.length - k; omega
   ·intro j hj hlt
    rcases Nat.lt_or_ge j k with g | g
    ·exact hno j hj g
    ·have : j = k := by omega
     subst this; exact fun e => h2 e.symm
 ·have hk2 : k = l.length := by omega
  subst hk2
  refine zz ?_
  refine Wc_ret (Lv_ret rfl ⟨?_, rfl⟩)
  have : l.findIdx? (fun x => decide (x = n)) = none := by
   rw [List.findIdx?_eq_none_iff]
   intro x hx
   obtain ⟨j, hj, rfl⟩ := List.getElem_of_mem hx
   simpa using hno j hj hj
  simp [firstI, this]; rfl
theorem any_eq_mem (l : List Int) (n : Int) : (l.any fun x => decide (x = n)) = decide (n ∈ l) := by
 rw [Bool.eq_iff_iff, List.any_eq_true]
 simp
theorem containsI_sv {a : Option Addr} {cap : Nat} {l : List Int} {n : Int} {h : Heap} (hl : IntsAt h a l) (hlen : Len l) : Sv Tryz.prog 110 [.slice a l.length cap, i64 n] h (RetP fun v h' => v = .bool (decide (n ∈ l)) /\ h' = h) := by
 refine Sv_enter Tryz.func110 rfl (by rw [Tryz.ntmps110]; rfl) ?_; show Wc Tryz.prog ⟨110, 9, none⟩ _ _ _ _ _
 refine zz ?_
 refine Wo_callV rfl rfl rfl rfl rfl Bod.h rfl rfl (indexI_sv hl hlen) ?_
 refine zz ?_
 refine Wo_dec rfl rfl rfl rfl (A_geq rfl rfl) (fun hb => ?_) (fun hb => ?_)
 ·refine zz ?_
  exact Wc_ret (Lv_ret rfl ⟨by rw [<- any_eq_mem, <- firstI_any, decide_eq_true hb]; rfl, rfl⟩)
 ·refine zz ?_
  exact Wc_ret (Lv_ret rfl ⟨by rw [<- any_eq_mem, <- firstI_any, decide_eq_false hb]; rfl, rfl⟩)
theorem allOne_i64 (l : List Int) : allOne (l.map i64) = true := by
 induction l with
 | nil => rfl
 | cons x l ih => exact ih
def TurnR (_ : Heap) (row : List Value) (x : Turn) : Prop := row = [i64 x.reel, i64 x.machine, i64 x.day]
abbrev TurnsAt := RowsAt 3 TurnR
theorem TurnR.ext {h h' : Heap} {row : List Value} {x : Turn} (a : TurnR h row x) (_ : Ext h h') : TurnR h' row x := a
theorem TurnsAt.ext {h h' : Heap} {a : Option Addr} {l : List Turn} (hl : TurnsAt h a l) (he : Ext h h') : TurnsAt h' a l := RowsAt.ext (R := TurnR) (fun x y => TurnR.ext x y) hl he
theorem TurnsAt.at {h : Heap} {a : Option Addr} {l : List Turn} (hl : TurnsAt h a l) {k : Nat} (hk : k < l.length) : ∃ b o oa, a = some ⟨b, o, oa⟩ /\ rowAt h b (o + k * 3) 3 = some [i64 l[k].reel, i64 l[k].machine, i64 l[k].day] /\ cellAt h b (o + k * 3 + 0) = some (i64 l[k].reel) /\ cellAt h b (o + k * 3 + 1) = some (i64 l[k].machine) /\ cellAt h b (o + k * 3 + 2) = some (i64 l[k].day) := by
 obtain ⟨b, o, oa, e, row, h1, h2⟩ := hl k hk
 unfold TurnR at h2
 subst h2
 exact ⟨b, o, oa, e, h1, cell_of_row h1 rfl, cell_of_row h1 rfl, cell_of_row h1 rfl⟩
end Go.Dw
/- J3: contracts: with, indices, can, Count, holds (telecineref04). -/
namespace Go.Dw
open Go Go.Dx Go.Proofs
set_option maxRecDepth 100000
end Go.Dw
/- J4: contracts: can, Count, holds (telecineref04). -/
namespace Go.Dw
open Go Go.Dx Go.Proofs
set_option maxRecDepth 100000
def canB (t : Task) (k m d : Int) : Bool := decide (m ∈ (reelAt t k).machines /\ (reelAt t k).ready <= t.first + d /\ t.first + d <= (reelAt t k).due)
theorem reelAt_nat {t : Task} {k : Nat} (hk : k < t.reels.length) : reelAt t k = t.reels[k] := by
 unfold reelAt
 simp [List.getD_eq_getElem?_getD, hk]
theorem reelRow {t : Task} {ar : Option Addr} {h : Heap} (hR : RowsAt 5 ReelAt h ar t.reels) {k : Nat} (hk : k < t.reels.length) : ∃ b o oa a cap, ar = some ⟨b, o, oa⟩ /\ rowAt h b (o + k * 5) 5 = some [str (reelAt t k).name, .slice a (reelAt t k).machines.length cap, i64 (reelAt t k).ready, i64 (reelAt t k).due, i64 (reelAt t k).risk] /\ IntsAt h a (reelAt t k).machines /\ cellAt h b (o + k * 5 + 4) = some (i64 (reelAt t k).risk) := by
 obtain ⟨b, o, oa, e, row, h1, h2⟩ := hR k hk
 rw [<- reelAt_nat hk] at h2
 obtain ⟨a, cap, rfl, hI⟩ := h2
 exact ⟨b, o, oa, a, cap, e, h1, hI, cell_of_row h1 rfl⟩
theorem machRow {t : Task} {am : Option Addr} {h : Heap} (hM : RowsAt 2 MachAt h am t.machines) {k : Nat} (hk : k < t.machines.length) : ∃ b o oa a cap, am = some ⟨b, o, oa⟩ /\ cellAt h b (o + k * 2 + 1) = some (.slice a t.machines[k].places.length cap) /\ IntsAt h a t.machines[k].places := by
 obtain ⟨b, o, oa, e, row, h1, h2⟩ := hM k hk
 obtain ⟨a, cap, rfl, hI⟩ := h2
 exact ⟨b, o, oa, a, cap, e, cell_of_row h1 rfl, hI⟩
def cellN (t : Task) (l : List Int) (m d : Nat) : Int := if (l.any fun k => canB t k m d) = true then (t.machines.getD m noMach).places.getD d 0 else 0
def rowN (t : Task) (l : List Int) (m : Nat) : Nat -> Int
 | 0 => 0
 | d + 1 => rowN t l m d + cellN t l m d
def sumN (t : Task) (l : List Int) : Nat -> Int
 | 0 => 0
 | m + 1 => sumN t l m + rowN t l m t.days.toNat
def countS (t : Task) (l : List Int) : Int := sumN t l t.machines.length
theorem placeAt {t : Task} (hV : Valid t) {m d : Nat} (hm : m < t.machines.length) (hd : d < t.days.toNat) : d < t.machines[m].places.length /\ (t.machines.getD m noMach).places.getD d 0 = t.machines[m].places.getD d 0 /\ 0 <= t.machines[m].places.getD d 0 /\ t.machines[m].places.getD d 0 <= 20 := by
 obtain ⟨h1, h2⟩ := hV.ms _ (List.getElem_mem hm)
 have hlt : d < t.machines[m].places.length := by omega
 refine ⟨hlt, by simp [List.getD_eq_getElem?_getD, hm], ?_⟩
 have := h2 _ (List.getElem_mem hlt)
 simp only [List.getD_eq_getElem?_getD, List.getElem?_eq_getElem hlt, Option.getD_some]
 exact this
end Go.Dw
/- J5: contracts: holds (telecineref04). -/
namespace Go.Dw
open Go Go.Dx Go.Proofs
set_option maxRecDepth 100000
structure Lat where
 reel : Int
 by' : List Int
structure Lat.Fit (x : Lat) : Prop where
 reel : I64 x.reel
 len : Len x.by'
 byI : ∀ n ∈ x.by', I64 n
def LatR (h : Heap) (row : List Value) (x : Lat) : Prop := ∃ a cap, row = [i64 x.reel, .slice a x.by'.length cap] /\ SrcAt i64 h a x.by'
abbrev LatsAt := RowsAt 2 LatR
theorem LatR.ext {h h' : Heap} {row : List Value} {x : Lat} (a : LatR h row x) (he : Ext h h') : LatR h' row x := by
 obtain ⟨a, c, h1, h2⟩ := a; exact ⟨a, c, h1, h2.ext he⟩
theorem LatsAt.ext {h h' : Heap} {a : Option Addr} {l : List Lat} (hl : LatsAt h a l) (he : Ext h h') : LatsAt h' a l := RowsAt.ext (R := LatR) (fun x y => LatR.ext x y) hl he
def byOk (t : Task) (done : List Int) (r k : Int) : Bool := decide (k ∈ done) && decide ((reelAt t r).risk <= (reelAt t k).risk)
def holdsB (t : Task) (done : List Int) (x : Lat) : Bool := !mixedB t.reels.length (-1) x.by' && (x.by'.all (byOk t done x.reel) && decide (countS t (x.by' ++ [x.reel]) <= x.by'.length))
end Go.Dw
/- J6: contracts: judged, Judge (telecineref04). -/
namespace Go.Dw
open Go Go.Dx Go.Proofs
set_option maxRecDepth 100000
structure Turn.Fit (x : Turn) : Prop where
 reel : I64 x.reel
 machine : I64 x.machine
 day : I64 x.day
theorem turn_place {t : Task} (hV : Valid t) {x : Turn} (hr0 : 0 <= x.reel) (hr1 : x.reel < t.reels.length) (hm0 : 0 <= x.machine) (hm1 : x.machine < t.machines.length) (hp : placeOk t x = true) :
  t.first <= x.day /\ x.day <= t.first + t.days - 1 /\ ∃ (hm : x.machine.toNat < t.machines.length) (hd : (x.day - t.first).toNat < t.machines[x.machine.toNat].places.length), capT t x.machine x.day = t.machines[x.machine.toNat].places[(x.day - t.first).toNat] /\ 0 <= capT t x.machine x.day /\ capT t x.machine x.day <= 20 := by
 obtain ⟨h1, h2, h3⟩ := of_decide_eq_true hp
 have hk : x.reel.toNat < t.reels.length := by omega
 have e : reelAt t x.reel = t.reels[x.reel.toNat] := by
  unfold reelAt
  simp [List.getD_eq_getElem?_getD, hk]
 obtain ⟨_, _, _, ⟨q1, q2, q3⟩, _⟩ := hV.rs _ (List.getElem_mem hk)
 rw [<- e] at q1 q2 q3
 have hm : x.machine.toNat < t.machines.length := by omega
 obtain ⟨p1, p2⟩ := hV.ms _ (List.getElem_mem hm)
 have hd : (x.day - t.first).toNat < t.machines[x.machine.toNat].places.length := by omega
 have hcap : capT t x.machine x.day = t.machines[x.machine.toNat].places[(x.day - t.first).toNat] := by
  unfold capT
  simp [List.getD_eq_getElem?_getD, hm, hd]
 refine ⟨by omega, by omega, hm, hd, hcap, ?_⟩
 rw [hcap]
 exact p2 _ (List.getElem_mem hd)
theorem take_succ {α : Type} {l : List α} {k : Nat} (hk : k < l.length) : l.take (k + 1) = l.take k ++ [l[k]] := by
 rw [List.take_add_one, List.getElem?_eq_getElem hk]; rfl
end Go.Dw
/- J7: contracts: Judge of telecineref04; judge, Judge of rescue. -/
namespace Go.Dw
open Go Go.Dx Go.Proofs
set_option maxRecDepth 100000
def tup2 (x : Int × Int) : Value := .tuple ⟨[i64 x.1, i64 x.2]⟩
theorem judged_len {t : Task} {l : List Turn} (h : argB t (-1) l = false) : l.length <= t.reels.length := by
 have key : ∀ {l : List Turn} {b : Int}, argB t b l = false -> -1 <= b -> b < t.reels.length -> (l.length : Int) <= t.reels.length - 1 - b := by
  intro l
  induction l with
  | nil => intro b _ _ hb; simp; omega
  | cons x l ih =>
   intro b h hb hb2
   unfold argB at h
   split at h
   ·cases h
   ·have := ih h (by omega) (by omega)
    simp only [List.length_cons]
    omega
 have := key h (by omega) (by omega)
 omega
end Go.Dw
/- J8: contracts: judge, Judge of rescue. -/
namespace Go.Dw
open Go Go.Dx Go.Proofs
set_option maxRecDepth 100000
noncomputable def placeK : KeyK Tryz.prog 121 (Int × Int × Int) where
 enc := fun p => .agg ⟨[i64 p.1, i64 p.2.1, i64 p.2.2]⟩
 ks := .struct [(.int .i64, 0), (.int .i64, 1), (.int .i64, 2)]
 hks := by kernel_rfl
 flat := fun _ => rfl
 ok := fun _ => rfl
 eq := fun a b => by
  obtain ⟨a1, a2, a3⟩ := a
  obtain ⟨b1, b2, b3⟩ := b
  show eqFs [(.int .i64, 0), (.int .i64, 1), (.int .i64, 2)] [i64 a1, i64 a2, i64 a3] [i64 b1, i64 b2, i64 b3] = _
  have e : ∀ x y : Int, (x == y) = decide (x = y) := fun _ _ => rfl
  simp only [eqFs, nth, Instr.sameNow, e]
  by_cases h1 : a1 = b1 <;> by_cases h2 : a2 = b2 <;> by_cases h3 : a3 = b3 <;> simp [h1, h2, h3]
 same := fun a => by simp [Instr.sameBits]
def doneL (l : List Turn) : List Value := (List.range 24).map fun (i : Nat) => .bool (decide ((i : Int) ∈ l.map Turn.reel))
theorem doneL_set {l : List Turn} {x : Turn} {r : Nat} (hr : x.reel = r) (hlt : r < 24) : (doneL l).set r (.bool true) = doneL (l ++ [x]) := by
 unfold doneL
 apply List.ext_getElem
 ·simp
 ·intro i h1 h2
  have hi : i < 24 := by simpa using h2
  rw [List.getElem_set]
  simp only [List.getElem_map, List.getElem_range, List.map_append, List.mem_append, List.map_cons, List.map_nil, List.mem_singleton, hr]
  by_cases e : r = i
  ·subst e; simp
  ·rw [if_neg e]
   have : ¬ (i : Int) = r := by omega
   simp [this]
theorem doneL_get {l : List Turn} {i : Nat} (hi : i < 24) : nth (doneL l) i = some (.bool (decide ((i : Int) ∈ l.map Turn.reel))) := by
 rw [nth_eq]
 unfold doneL
 rw [List.getElem?_map, List.getElem?_range hi]; rfl
theorem doneL_len (l : List Turn) : (doneL l).length = 24 := by simp [doneL]
theorem doneL_one (l : List Turn) : allOne (doneL l) = true := by
 unfold allOne doneL
 rw [List.all_eq_true]
 intro x hx
 obtain ⟨i, _, rfl⟩ := List.mem_map.1 hx
 rfl
theorem doneL_cut (l : List Turn) : cut (doneL l) 0 24 = some (doneL l) := by
 have := doneL_len l
 unfold cut
 have hb : Nat.ble (Nat.add 0 24) (doneL l).length = true := Nat.ble_eq_true_of_le (by show 0 + 24 <= (doneL l).length; omega)
 rw [hb]
 simp only [List.drop_zero]
 rw [List.take_of_length_le (by omega)]
theorem doneL_lay (l : List Turn) : lay (doneL l) 0 (doneL l) = some (doneL l) := by
 rw [lay_some (by omega)]
 simp
theorem mapB_ne {t : TypeId} {α : Type} [DecidableEq α] {P : Program} {K : KeyK P t α} {h : Heap} {b c : Nat} {l : List (α × Value)} {vs : List Value} {el : TypeId} {op : Bool} (hm : MapB K h b l) (hg : h.get c = some (.cells vs el op)) : c ≠ b := by
 rintro rfl
 obtain ⟨es, ck, h1, _⟩ := hm
 rw [h1] at hg; cases hg
def judgeR (t : Task) (l : List Turn) (h : Heap) : VS -> Prop := fun r =>
 if errS t ≠ 0 then ∃ h', r = .pan (errV (errS t)) h' /\ Ext h h' else if judgedS t l ≠ 0 then ∃ h', r = .pan (errV (judgedS t l)) h' /\ Ext h h' else ∃ h', r = .ret (.tuple ⟨[.agg ⟨doneL l⟩, i64 (leftS t l)]⟩) h' /\ Ext h h'
set_option maxHeartbeats 4000000 in
theorem judge_sv {tc : List Value} {t : Task} {a : Option Addr} {cap : Nat} {l : List Turn} {h : Heap} (ht : TaskAt h tc t) (hf : t.Fit) (hl : TurnsAt h a l) (hlf : ∀ x ∈ l, x.Fit) (hlen : Len l) :
  Sv Tryz.prog 68 [.agg ⟨tc⟩, .slice a l.length cap] h (judgeR t l h) := by
 have ht0 := ht
 obtain ⟨am, cm, ar, cr, rfl, hM, hR⟩ := ht
 refine Sv_wf fun hw => ?_
 refine Sv_enterR Tryz.func68 rfl (by rw [Tryz.ntmps68]; rfl) ?_
 show Wc Tryz.prog ⟨68, 150, none⟩ _ _ _ _ _
 refine zz ?_
 refine Wo_box rfl rfl rfl fun h1 hE1 hW1 hg1 hn1 => ?_
 refine Wo_alloc rfl rfl Zr.h fun h2 hE2 hW2 hg2 hn2 => ?_
 replace hg1 := hE2.get hg1
 replace hE1 := hE1.trans hE2
 have hne : h.nx ≠ h1.nx := by omega
 have hgD : h.nx <= h1.nx := by omega
 clear hE2 hW1 hn1 hn2
 generalize hb1 : h.nx = b1 at *
 generalize h1.nx = bD at *
 replace hgD : h.nx <= bD := by omega
 clear hb1
 clear h1
 refine zz ?_
 refine Wo_callE rfl rfl rfl rfl rfl Bod.h rfl rfl (rescueCheck_sv (ht0.ext hE1) hf) fun h3 hE3 => ?_
 replace hg1 := hE3.get hg1
 replace hg2 := hE3.get hg2
 replace hE1 := hE1.trans hE3
 clear hE3 hW2 h2
 refine zz ?_
 by_cases c0 : errS t = 0
 rotate_left
 ·refine Wo_do rfl rfl rfl rfl (A_ff c0 (A_eql rfl rfl)) ?_
  refine zz ?_
  refine Wo_callM rfl rfl rfl rfl rfl Bod.h rfl rfl (must_sv false _ _) (fun hb => by cases hb) (fun _ => ?_)
  refine LvR_pan ?_
  rw [judgeR, if_pos c0]; exact ⟨_, rfl, hE1⟩
 refine Wo_do rfl rfl rfl rfl (A_tt c0 (A_eql rfl rfl)) ?_
 refine zz ?_
 refine Wo_callM rfl rfl rfl rfl rfl Bod.h rfl rfl (must_sv true _ _) (fun _ => ?_) (fun hb => by cases hb)
 have hV := valid_of c0
 have hrs := hV.r1
 have hms := hV.m1
 have hf0 := hV.f0
 have hf1 := hV.f1
 have hd1 := hV.d1
 refine zz ?_
 refine Wc_loop (fun (s : Nat × Int) m ds h' => ds = [] /\ Ext h h' /\ h'.get b1 = some (.cells [i64 t.first, i64 t.days, .slice am t.machines.length cm, .slice ar t.reels.length cr] 25 false) /\ h'.get bD = some (.cells (doneL []) 124 false) /\ s.1 <= l.length /\ argB t (-1) l = argB t s.2 (l.drop s.1) /\ (-1 <= s.2 /\ s.2 < 9223372036854775807) /\ AllK m [(1, .slice a l.length cap), (2, .pointer (some ⟨b1, 0, none⟩)), (4, .pointer (some ⟨bD, 0, none⟩)), (5, i64 0), (9, i64 s.2), (31, .slice a l.length cap), (32, i64 l.length), (33, i64 s.1)]) (fun s => l.length - s.1) (0, -1) ?_ ?_
 ·exact ⟨rfl, hE1, hg1, hg2, Nat.zero_le _, rfl, by decide, rfl, rfl, rfl, rfl, rfl, rfl, rfl, rfl, trivial⟩
 clear hE1 hg1 hg2 h3
 rintro ⟨k, bef⟩ m ds h1 ⟨rfl, hE1, hg1, hg2, hk, hrec, hbef, hall⟩
 simp only at hk hrec hbef hall
 refine Wc.le ?_ (Le.kn hall)
 refine zz ?_
 refine Wo_dec rfl rfl rfl rfl (A_lss rfl rfl) (fun hkp => ?_) (fun hkp => ?_)
 ·have hk' : k < l.length := by simpa using hkp
  obtain ⟨b, o, oa, rfl, hrow, hcr, hcm, hcd⟩ := (hl.ext hE1).at hk'
  have hdr : l.drop k = l[k] :: l.drop (k + 1) := List.drop_eq_getElem_cons hk'
  rw [hdr, argB] at hrec
  have hfk := hlf _ (List.getElem_mem hk')
  have hfr := hfk.reel
  have hfm := hfk.machine
  refine zz ?_
  refine Wo_do rfl rfl rfl rfl (A_ix Und.h Tsz.h rfl rfl) ?_
  refine zz ?_
  refine Wo_allocStore rfl rfl Zr.h Tsz.h rfl (fun _ => rfl) rfl rfl rfl fun h2 hE2 hW2 hgx hnx => ?_
  replace hg1 := hE2.get hg1
  replace hg2 := hE2.get hg2
  replace hE1 := hE1.trans hE2
  refine zz ?_
  by_cases c1 : l[k].reel < bef + 1 \/ (t.reels.length : Int) - 1 < l[k].reel
  ·refine Wo_callV rfl rfl rfl rfl rfl Bod.h rfl rfl (Sv_tt c1 (out_sv _ _ _ _)) ?_
   refine zz ?_
   refine Wo_callM rfl rfl rfl rfl rfl Bod.h rfl rfl (must_sv false _ _) (fun hb => by cases hb) (fun _ => ?_)
   refine LvR_pan ?_
   have hbad : argB t (-1) l = true := by rw [hrec, if_pos (.inl c1)]
   have hj : judgedS t l = 2 := by rw [judgedS, if_pos hbad]
   rw [judgeR, if_neg (by omega), if_pos (by omega), hj]; exact ⟨_, rfl, hE1⟩
  refine Wo_callV rfl rfl rfl rfl rfl Bod.h rfl rfl (Sv_ff c1 (out_sv _ _ _ _)) ?_
  refine zz ?_
  by_cases c2 : l[k].machine < 0 \/ (t.machines.length : Int) - 1 < l[k].machine
  ·refine Wo_callV rfl rfl rfl rfl rfl Bod.h rfl rfl (Sv_tt c2 (out_sv _ _ _ _)) ?_
   refine zz ?_
   refine Wo_callM rfl rfl rfl rfl rfl Bod.h rfl rfl (must_sv false _ _) (fun hb => by cases hb) (fun _ => ?_)
   refine LvR_pan ?_
   have hbad : argB t (-1) l = true := by rw [hrec, if_pos (.inr c2)]
   have hj : judgedS t l = 2 := by rw [judgedS, if_pos hbad]
   rw [judgeR, if_neg (by omega), if_pos (by omega), hj]; exact ⟨_, rfl, hE1⟩
  refine Wo_callV rfl rfl rfl rfl rfl Bod.h rfl rfl (Sv_ff c2 (out_sv _ _ _ _)) ?_
  refine zz ?_
  refine Wo_callM rfl rfl rfl rfl rfl Bod.h rfl rfl (must_sv true _ _) (fun _ => ?_) (fun hb => by cases hb)
  refine zz ?_
  rw [if_neg (fun x => x.elim c1 c2)] at hrec
  refine ⟨(k + 1, l[k].reel), ?_, rfl, hE1, hg1, hg2, hk', hrec, by simp only; omega, rfl, rfl, rfl, rfl, rfl, rfl, rfl, rfl, trivial⟩
  show l.length - (k + 1) < l.length - k; omega
 have harg : argB t (-1) l = false := by
  have hk2 : k = l.length := by omega
  rw [hrec, hk2, List.drop_length]; rfl
 obtain ⟨hin, _⟩ := argB_false harg (Int.le_refl _)
 have hll := judged_len harg
 clear hrec hbef hk hkp
 refine zz ?_
 refine Wc_loop (fun (k : Nat) m ds h' => ds = [] /\ Ext h h' /\ h'.get b1 = some (.cells [i64 t.first, i64 t.days, .slice am t.machines.length cm, .slice ar t.reels.length cr] 25 false) /\ h'.get bD = some (.cells (doneL []) 124 false) /\ k <= l.length /\ (∀ j (hj : j < l.length), j < k -> placeOk t l[j] = true) /\ AllK m [(1, .slice a l.length cap), (2, .pointer (some ⟨b1, 0, none⟩)), (4, .pointer (some ⟨bD, 0, none⟩)), (5, i64 0), (61, .slice a l.length cap), (62, i64 l.length), (63, i64 k)]) (fun k => l.length - k) 0 ?_ ?_
 ·exact ⟨rfl, hE1, hg1, hg2, Nat.zero_le _, (fun _ _ hj => by omega), rfl, rfl, rfl, rfl, rfl, rfl, rfl, trivial⟩
 clear hE1 hg1 hg2 h1 hall m k bef
 rintro k m ds h1 ⟨rfl, hE1, hg1, hg2, hk, hok, hall⟩
 refine Wc.le ?_ (Le.kn hall)
 refine zz ?_
 refine Wo_dec rfl rfl rfl rfl (A_lss rfl rfl) (fun hkp => ?_) (fun hkp => ?_)
 ·have hk' : k < l.length := by simpa using hkp
  obtain ⟨b, o, oa, rfl, hrow, hcr, hcm, hcd⟩ := (hl.ext hE1).at hk'
  obtain ⟨_, i1, i2, i3, i4⟩ := hin _ (List.getElem_mem hk')
  obtain ⟨r, hr⟩ : ∃ r : Nat, l[k].reel = r := ⟨l[k].reel.toNat, by omega⟩
  have hrl : r < t.reels.length := by omega
  obtain ⟨bR, oR, oaR, aR, cR, rfl, hrR, hIR, _⟩ := reelRow hR hrl
  have hml : Len (reelAt t r).machines := by rw [reelAt_nat hrl]; exact (hf.rsF _ (List.getElem_mem hrl)).ms
  have hpl : placeOk t l[k] = decide (l[k].machine ∈ (reelAt t r).machines /\ (reelAt t r).ready <= l[k].day /\ l[k].day <= (reelAt t r).due) := by unfold placeOk; rw [hr]
  rw [hr] at hrow
  refine zz ?_
  refine Wo_do rfl rfl rfl rfl (A_ix Und.h Tsz.h rfl rfl) ?_
  refine zz ?_
  refine Wo_allocStore rfl rfl Zr.h Tsz.h rfl (fun _ => rfl) rfl rfl rfl fun h2 hE2 hW2 hgx hnx => ?_
  replace hg1 := hE2.get hg1
  replace hg2 := hE2.get hg2
  replace hE1 := hE1.trans hE2
  have hrR2 := hE1.row hrR
  refine zz ?_
  refine Wo_do rfl rfl rfl rfl (A_ix Und.h Tsz.h rfl rfl) ?_
  refine zz ?_
  refine Wo_allocStore rfl rfl Zr.h Tsz.h rfl (fun _ => rfl) rfl rfl rfl fun h3 hE3 hW3 hgy hny => ?_
  replace hgx := hE3.get hgx
  replace hg1 := hE3.get hg1
  replace hg2 := hE3.get hg2
  replace hE1 := hE1.trans hE3
  generalize h1.nx = bx at *
  generalize h2.nx = by' at *
  refine zz ?_
  by_cases c1 : l[k].machine ∈ (reelAt t r).machines
  rotate_left
  ·refine Wo_callV rfl rfl rfl rfl rfl Bod.h rfl rfl (Sv_ff c1 (containsI_sv (hIR.ext hE1) hml)) ?_
   refine zz ?_
   refine Wo_callM rfl rfl rfl rfl rfl Bod.h rfl rfl (must_sv false _ _) (fun hb => by cases hb) (fun _ => ?_)
   refine LvR_pan ?_
   have hj : judgedS t l = 140 := by
    rw [judgedS, harg, if_neg (by simp), if_pos (by
     rw [List.all_eq_false]
     exact ⟨_, List.getElem_mem hk', by rw [hpl, decide_eq_false (fun x => c1 x.1)]; simp⟩)]
   rw [judgeR, if_neg (by omega), if_pos (by omega), hj]; exact ⟨_, rfl, hE1⟩
  refine Wo_callV rfl rfl rfl rfl rfl Bod.h rfl rfl (Sv_tt c1 (containsI_sv (hIR.ext hE1) hml)) ?_
  refine zz ?_
  by_cases c2 : l[k].day < (reelAt t r).ready \/ (reelAt t r).due < l[k].day
  ·refine Wo_callV rfl rfl rfl rfl rfl Bod.h rfl rfl (Sv_tt c2 (out_sv _ _ _ _)) ?_
   refine zz ?_
   refine Wo_callM rfl rfl rfl rfl rfl Bod.h rfl rfl (must_sv false _ _) (fun hb => by cases hb) (fun _ => ?_)
   refine LvR_pan ?_
   have hj : judgedS t l = 140 := by
    rw [judgedS, harg, if_neg (by simp), if_pos (by
     rw [List.all_eq_false]
     exact ⟨_, List.getElem_mem hk', by rw [hpl, decide_eq_false (fun x => by omega)]; simp⟩)]
   rw [judgeR, if_neg (by omega), if_pos (by omega), hj]; exact ⟨_, rfl, hE1⟩
  refine Wo_callV rfl rfl rfl rfl rfl Bod.h rfl rfl (Sv_ff c2 (out_sv _ _ _ _)) ?_
  refine zz ?_
  refine Wo_callM rfl rfl rfl rfl rfl Bod.h rfl rfl (must_sv true _ _) (fun _ => ?_) (fun hb => by cases hb)
  refine zz ?_
  refine ⟨k + 1, ?_, rfl, hE1, hg1, hg2, hk', ?_, rfl, rfl, rfl, rfl, rfl, rfl, rfl, trivial⟩
  ·show l.length - (k + 1) < l.length - k; omega
  ·intro j hj hlt
   rcases Nat.lt_or_ge j k with g | g
   ·exact hok j hj g
   ·have : j = k := by omega
    subst this; rw [hpl, decide_eq_true ⟨c1, by omega, by omega⟩]
 have hall1 : l.all (placeOk t) = true := by
  rw [List.all_eq_true]
  intro y hy
  obtain ⟨j, hj, rfl⟩ := List.getElem_of_mem hy
  exact hok j hj (by omega)
 clear hok hk hkp
 have hall2 := List.all_eq_true.1 hall1
 refine zz ?_
 have hnxu := hE1.2.1
 refine Wo_mkMap rfl rfl fun h2 hE2 hW2 hg3 hn3 => ?_
 replace hg1 := hE2.get hg1
 replace hg2 := hE2.get hg2
 replace hE1 := hE1.trans hE2
 have hMp : MapB placeK h2 h1.nx [] := MapB.new _ hg3
 have hgu : h.nx <= h1.nx := hnxu
 clear hg3 hW2 hn3 hE2
 generalize h1.nx = bm at *
 clear h1 hnxu
 refine zz ?_
 refine Wc_loop (fun (k : Nat) m ds h' => ds = [] /\ Ext h h' /\ h'.get b1 = some (.cells [i64 t.first, i64 t.days, .slice am t.machines.length cm, .slice ar t.reels.length cr] 25 false) /\ h'.get bD = some (.cells (doneL (l.take k)) 124 false) /\ k <= l.length ∧
   (∃ lu, MapB placeK h' bm lu /\ ∀ p, lkp p lu = if p.2.2 = 0 /\ 0 < cntT (l.take k) p.1 p.2.1 then some (i64 (cntT (l.take k) p.1 p.2.1 : Nat)) else none) ∧
   (∀ x ∈ l.take k, (cntT (l.take k) x.machine x.day : Int) <= capT t x.machine x.day) ∧
   AllK m [(1, .slice a l.length cap), (2, .pointer (some ⟨b1, 0, none⟩)), (4, .pointer (some ⟨bD, 0, none⟩)), (5, i64 0), (15, .map (some bm)), (91, .slice a l.length cap), (92, i64 l.length), (93, i64 k)]) (fun k => l.length - k) 0 ?_ ?_
 ·exact ⟨rfl, hE1, hg1, hg2, Nat.zero_le _, ⟨[], hMp, fun p => by simp [cntT, lkp]⟩, (fun x hx => by simp at hx), rfl, rfl, rfl, rfl, rfl, rfl, rfl, rfl, trivial⟩
 clear hE1 hg1 hg2 hMp h2 hall m k
 rintro k m ds h1 ⟨rfl, hE1, hg1, hg2, hk, ⟨lu, hMp, hlu⟩, hok, hall⟩
 refine Wc.le ?_ (Le.kn hall)
 refine zz ?_
 refine Wo_dec rfl rfl rfl rfl (A_lss rfl rfl) (fun hkp => ?_) (fun hkp => ?_)
 ·have hk' : k < l.length := by simpa using hkp
  obtain ⟨b, o, oa, rfl, hrow, hcr, hcm, hcd⟩ := (hl.ext hE1).at hk'
  obtain ⟨_, i1, i2, i3, i4⟩ := hin _ (List.getElem_mem hk')
  obtain ⟨p1, p2, hm, hd, hcap, hc0, hc1⟩ := turn_place hV i1 i2 i3 i4 (hall2 _ (List.getElem_mem hk'))
  obtain ⟨r, hr⟩ : ∃ r : Nat, l[k].reel = r := ⟨l[k].reel.toNat, by omega⟩
  have hr24 : r < 24 := by omega
  obtain ⟨bM, oM, oaM, aM, cM, rfl, hcM, hIM⟩ := machRow hM hm
  obtain ⟨bP, oP, oaP, rfl, hcP⟩ := hIM _ hd
  have hcl := cntT_le (l.take k) l[k].machine l[k].day
  rw [List.length_take] at hcl
  have hcnt : ∀ mm dd, cntT (l.take (k + 1)) mm dd = cntT (l.take k) mm dd + if l[k].machine = mm /\ l[k].day = dd then 1 else 0 := fun mm dd => by rw [take_succ hk', cntT_append, cntT_one]
  refine zz ?_
  refine Wo_do rfl rfl rfl rfl (A_ix Und.h Tsz.h rfl rfl) ?_
  refine zz ?_
  refine Wo_allocStore rfl rfl Zr.h Tsz.h rfl (fun _ => rfl) rfl rfl rfl fun h2 hE2 hW2 hgx hnx => ?_
  replace hg1 := hE2.get hg1
  replace hg2 := hE2.get hg2
  replace hMp := MapB.ext placeK hMp hE2
  replace hE1 := hE1.trans hE2
  refine zz ?_
  refine Wo_do rfl rfl rfl rfl (A_build rfl rfl) ?_
  refine Wo_allocStore rfl rfl Zr.h Tsz.h rfl (fun _ => rfl) rfl rfl rfl fun h3 hE3 hW3 hgy hny => ?_
  replace hgx := hE3.get hgx
  replace hg1 := hE3.get hg1
  replace hg2 := hE3.get hg2
  replace hMp := MapB.ext placeK hMp hE3
  replace hE1 := hE1.trans hE3
  generalize h1.nx = bx at *
  generalize h2.nx = by' at *
  refine zz ?_
  generalize hcdef : cntT (l.take k) l[k].machine l[k].day = c at *
  have hval : (lkp (l[k].machine, l[k].day, 0) lu).getD (i64 0) = i64 (c : Nat) := by
   rw [hlu]
   by_cases g : 0 < c
   ·rw [if_pos ⟨rfl, by simp only [hcdef]; exact g⟩]
    simp only [hcdef]; rfl
   ·rw [if_neg (fun x => g (by have := x.2; simp only [hcdef] at this; exact this))]
    have : c = 0 := by omega
    rw [this]; rfl
  have hval2 : (lkp (l[k].machine, l[k].day, 0) (setK (l[k].machine, l[k].day, 0) ((lkp (l[k].machine, l[k].day, 0) lu).getD (i64 0)) lu)).getD (i64 0) = i64 (c : Nat) := by
   rw [lkp_setK, if_pos rfl]; exact hval
  refine Wc_draw hmix [0, 0, 3, 7, 3, 19, 63] [0, 1, 2, 3] (some 4) [([5], (some 6)), ([], none)] (by kernel_rfl) (by kernel_rfl) ?_
  refine z_m ?_; refine z_r ?_; refine Wp_pure rfl rfl rfl rfl rfl (fun _ => A_lookupV placeK (k := (l[k].machine, l[k].day, 0)) Und.h Zr.h rfl hMp rfl hval) ?_; refine z_y ?_
  refine Wp_eff [0, 1] (by kernel_rfl) rfl (Stl_nil rfl) rfl nb rfl (W1_mapEntry placeK (k := (l[k].machine, l[k].day, 0)) rfl rfl Und.h Zr.h rfl hMp rfl (fun h4 o4 s4 hU4 hMs => ?_))
  refine z_e ?_
  refine Wp_eff [0, 1, 2, 3, 4, 5] (by kernel_rfl) rfl (by refine t_y 3 ?_; refine Stl_pure (i := 2) rfl rfl rfl rfl rfl (fun _ => A_lookupV placeK (k := (l[k].machine, l[k].day, 0)) Und.h Zr.h rfl (MapS.mapB placeK hMs) rfl hval2) rfl ?_; exact Stl_nil rfl) rfl nb rfl (W1_entryStore placeK (k := (l[k].machine, l[k].day, 0)) rfl rfl rfl hMs rfl rfl (fun h5 o5 hU5 hM5 => ?_))
  refine Wp_end (Stl_nil rfl) nb' ?_
  have hE5 : Ext h h5 := hU5.ext (hU4.ext hE1 hw hgu) hw hgu
  replace hg1 := hU5.get (mapB_ne hMp hg1) (hU4.get (mapB_ne hMp hg1) hg1)
  replace hg2 := hU5.get (mapB_ne hMp hg2) (hU4.get (mapB_ne hMp hg2) hg2)
  replace hgx := hU5.get (mapB_ne hMp hgx) (hU4.get (mapB_ne hMp hgx) hgx)
  replace hgy := hU5.get (mapB_ne hMp hgy) (hU4.get (mapB_ne hMp hgy) hgy)
  clear hU4 hU5 hMs hE1
  have hlu5 : ∀ p, lkp p (setK (l[k].machine, l[k].day, 0) (i64 ((c : Nat) + 1)) (setK (l[k].machine, l[k].day, 0) ((lkp (l[k].machine, l[k].day, 0) lu).getD (i64 0)) lu)) = if p.2.2 = 0 /\ 0 < cntT (l.take (k + 1)) p.1 p.2.1 then some (i64 (cntT (l.take (k + 1)) p.1 p.2.1 : Nat)) else none := by
   rintro ⟨mm, dd, nn⟩
   rw [lkp_setK, lkp_setK]
   simp only [hcnt]
   by_cases e : (mm, dd, nn) = (l[k].machine, l[k].day, 0)
   ·cases e
    rw [if_pos rfl, if_pos ⟨rfl, by simp⟩]
    simp [hcdef]
   ·rw [if_neg e, if_neg e, hlu]
    by_cases e2 : nn = 0
    ·subst e2
     have : ¬ (l[k].machine = mm /\ l[k].day = dd) := fun x => e (by rw [x.1, x.2])
     simp [this]
    ·simp [e2]
  have hM6 : MapB placeK h5 bm (setK (l[k].machine, l[k].day, 0) (i64 ((c : Nat) + 1)) (setK (l[k].machine, l[k].day, 0) ((lkp (l[k].machine, l[k].day, 0) lu).getD (i64 0)) lu)) := hM5
  clear hM5
  generalize (setK (l[k].machine, l[k].day, 0) (i64 ((c : Nat) + 1)) (setK (l[k].machine, l[k].day, 0) ((lkp (l[k].machine, l[k].day, 0) lu).getD (i64 0)) lu)) = lu5 at *
  have hval5 : (lkp (l[k].machine, l[k].day, 0) lu5).getD (i64 0) = i64 ((c : Nat) + 1) := by
   rw [hlu5, hcnt]
   simp [hcdef]
  replace hcM := hE5.cell hcM
  replace hcP := hE5.cell hcP
  refine zz ?_
  have hcc : cntT (l.take (k + 1)) l[k].machine l[k].day = c + 1 := by rw [hcnt, hcdef, if_pos ⟨rfl, rfl⟩]
  by_cases c3 : (c : Int) + 1 <= capT t l[k].machine l[k].day
  rotate_left
  ·rw [hcap] at c3
   refine Wc_draw hmix [0, 0, 3, 0, 8, 0, 32, 120, 248, 504, 0, 1024, 0, 4096, 15360, 32760, 65528, 131071, 262143] [0, 1, 2, 3, 4, 5, 6, 7, 8, 9, 10, 11, 12, 13, 14, 15, 16, 17] (some 18) [([], none)] (by kernel_rfl) (by kernel_rfl) ?_
   refine z_m ?_; refine z_r ?_; refine Wp_pure rfl rfl rfl rfl rfl (fun _ => A_lookupV placeK (k := (l[k].machine, l[k].day, 0)) Und.h Zr.h rfl hM6 rfl hval5) ?_; refine z_f ?_; refine z_l ?_; refine z_f ?_; refine z_l ?_; refine Wp_pure rfl rfl rfl rfl rfl (fun _ => A_indexAddr (k := l[k].machine.toNat) (z := l[k].machine) Und.h Tsz.h rfl rfl (by omega) (by omega)) ?_; refine z_f ?_; refine z_l ?_; refine z_f ?_; refine z_l ?_; refine z_f ?_; refine z_l ?_; refine z_u ?_; refine Wp_pure rfl rfl rfl rfl rfl (fun _ => A_indexAddr (k := (l[k].day - t.first).toNat) (z := l[k].day - t.first) Und.h Tsz.h rfl rfl (by omega) (by omega)) ?_; refine z_l ?_; refine Wp_pure rfl rfl rfl rfl rfl (fun _ => A_ff c3 (A_leq rfl rfl)) ?_
   refine Wp_eff [0, 1, 2, 3, 4, 5, 6, 7, 8, 9, 10, 11, 12, 13, 14, 15, 16, 17] (by kernel_rfl) rfl (Stl_nil rfl) rfl nb rfl (W1_callM rfl rfl rfl rfl rfl Bod.h (must_sv false _ _) (fun hb => nomatch hb) (fun _ => ?_))
   refine LvR_pan ?_
   have hfull : fullB t l = true := by
    unfold fullB
    rw [List.any_eq_true]
    refine ⟨_, List.getElem_mem hk', decide_eq_true ?_⟩
    have hle : cntT (l.take (k + 1)) l[k].machine l[k].day <= cntT l l[k].machine l[k].day := by
     have := cntT_append (l.take (k + 1)) (l.drop (k + 1)) l[k].machine l[k].day
     rw [List.take_append_drop] at this
     omega
    rw [hcap]; omega
   have hj : judgedS t l = 141 := by rw [judgedS, harg, if_neg (by simp), hall1, if_neg (by simp), if_pos hfull]
   rw [judgeR, if_neg (by omega), if_pos (by omega), hj]; exact ⟨_, rfl, hE5⟩
  have c3' := c3
  rw [hcap] at c3
  refine Wc_draw hmix [0, 0, 3, 0, 8, 0, 32, 120, 248, 504, 0, 1024, 0, 4096, 15360, 32760, 65528, 131071, 262143] [0, 1, 2, 3, 4, 5, 6, 7, 8, 9, 10, 11, 12, 13, 14, 15, 16, 17] (some 18) [([], none)] (by kernel_rfl) (by kernel_rfl) ?_
  refine z_m ?_; refine z_r ?_; refine Wp_pure rfl rfl rfl rfl rfl (fun _ => A_lookupV placeK (k := (l[k].machine, l[k].day, 0)) Und.h Zr.h rfl hM6 rfl hval5) ?_; refine z_f ?_; refine z_l ?_; refine z_f ?_; refine z_l ?_; refine Wp_pure rfl rfl rfl rfl rfl (fun _ => A_indexAddr (k := l[k].machine.toNat) (z := l[k].machine) Und.h Tsz.h rfl rfl (by omega) (by omega)) ?_; refine z_f ?_; refine z_l ?_; refine z_f ?_; refine z_l ?_; refine z_f ?_; refine z_l ?_; refine z_u ?_; refine Wp_pure rfl rfl rfl rfl rfl (fun _ => A_indexAddr (k := (l[k].day - t.first).toNat) (z := l[k].day - t.first) Und.h Tsz.h rfl rfl (by omega) (by omega)) ?_; refine z_l ?_; refine Wp_pure rfl rfl rfl rfl rfl (fun _ => A_tt c3 (A_leq rfl rfl)) ?_
  refine Wp_eff [0, 1, 2, 3, 4, 5, 6, 7, 8, 9, 10, 11, 12, 13, 14, 15, 16, 17] (by kernel_rfl) rfl (Stl_nil rfl) rfl nb rfl (W1_callM rfl rfl rfl rfl rfl Bod.h (must_sv true _ _) (fun _ => ?_) (fun hb => nomatch hb))
  refine Wp_end (Stl_nil rfl) nb' ?_
  refine zz ?_
  refine Wo_do rfl rfl rfl rfl (A_indexArr (k := r) (z := l[k].reel) Und.h Tsz.h rfl rfl hr hr24) ?_
  refine Wo_store rfl Tsz.h rfl rfl hg2 rfl rfl (lay_one (by rw [doneL_len]; omega)) fun h6 hU6 => ?_
  have hE6 : Ext h h6 := hU6.ext hE5 hw hgD
  replace hg1 := hU6.get hne hg1
  have hM7 := MapB.get placeK hM6 (hU6.other _ (fun e => mapB_ne hM6 hg2 e.symm))
  replace hg2 := hU6.at'
  clear hU6
  rw [show 0 + r * 1 = r by omega, doneL_set hr hr24, <- take_succ hk'] at hg2
  refine zz ?_
  refine ⟨k + 1, ?_, rfl, hE6, hg1, hg2, hk', ⟨lu5, hM7, hlu5⟩, ?_, rfl, rfl, rfl, rfl, rfl, rfl, rfl, rfl, trivial⟩
  ·show l.length - (k + 1) < l.length - k; omega
  ·intro x hx
   by_cases e : l[k].machine = x.machine /\ l[k].day = x.day
   ·rw [<- e.1, <- e.2, hcc]; omega
   ·rw [hcnt, if_neg e, Nat.add_zero]
    rw [take_succ hk', List.mem_append] at hx
    rcases hx with g | g
    ·exact hok x g
    ·rw [List.mem_singleton] at g; subst g; exact absurd ⟨rfl, rfl⟩ e
 have hk2 : k = l.length := by omega
 subst hk2
 rw [List.take_length] at hg2 hok
 have hfull : fullB t l = false := by
  unfold fullB
  rw [List.any_eq_false]
  intro x hx
  have := hok x hx
  simp; omega
 have hj0 : judgedS t l = 0 := by rw [judgedS, harg, if_neg (by simp), hall1, if_neg (by simp), hfull, if_neg (by simp)]
 clear hok hlu hMp lu hk hkp
 refine zz ?_
 refine Wc_loop (fun (i : Nat) m ds h' => ds = [] /\ Ext h h' /\ h'.get b1 = some (.cells [i64 t.first, i64 t.days, .slice am t.machines.length cm, .slice ar t.reels.length cr] 25 false) /\ h'.get bD = some (.cells (doneL l) 124 false) /\ i <= t.reels.length ∧
   AllK m [(2, .pointer (some ⟨b1, 0, none⟩)), (4, .pointer (some ⟨bD, 0, none⟩)), (5, i64 (leftGo (l.map Turn.reel) 0 (t.reels.take i))), (132, .slice ar t.reels.length cr), (133, i64 t.reels.length), (134, i64 i)]) (fun i => t.reels.length - i) 0 ?_ ?_
 ·exact ⟨rfl, hE1, hg1, hg2, Nat.zero_le _, rfl, rfl, rfl, rfl, rfl, rfl, trivial⟩
 clear hE1 hg1 hg2 h1 hall m
 rintro i m ds h1 ⟨rfl, hE1, hg1, hg2, hi, hall⟩
 have hrng := leftGo_range (done := l.map Turn.reel) (rs := t.reels.take i) (i := 0) fun r hr => (hV.rs r (List.mem_of_mem_take hr)).2.2.2.2
 rw [List.length_take] at hrng
 refine Wc_wf fun hw1 => ?_
 refine Wc.le ?_ (Le.kn hall)
 refine zz ?_
 refine Wo_dec rfl rfl rfl rfl (A_lss rfl rfl) (fun hip => ?_) (fun hip => ?_)
 ·have hi' : i < t.reels.length := by simpa using hip
  obtain ⟨b, o, oa, aR, cR, rfl, hrR, _, _⟩ := reelRow hR hi'
  rw [reelAt_nat hi'] at hrR
  replace hrR := hE1.row hrR
  obtain ⟨q1, q2⟩ := (hV.rs _ (List.getElem_mem hi')).2.2.2.2
  have hgo : leftGo (l.map Turn.reel) 0 (t.reels.take (i + 1)) = leftGo (l.map Turn.reel) 0 (t.reels.take i) + if (i : Int) ∈ l.map Turn.reel then 0 else t.reels[i].risk := by
   rw [take_succ hi', leftGo_append, List.length_take, Nat.min_eq_left (by omega)]
   simp [leftGo]
  refine zz ?_
  refine Wo_do rfl rfl rfl rfl (A_ix Und.h Tsz.h rfl rfl) ?_
  refine zz ?_
  refine Wo_alloc rfl rfl Zr.h fun h2 hE2 hW2 hgn hn2 => ?_
  refine zz ?_
  refine Wo_store rfl Tsz.h rfl rfl hgn rfl rfl rfl fun h3 hU3 => ?_
  have hE3 : Ext h1 h3 := hU3.ext hE2 hw1 (Nat.le_refl _)
  have hgr := hU3.at'
  replace hg1 := hE3.get hg1
  replace hg2 := hE3.get hg2
  replace hE1 := hE1.trans hE3
  clear hU3 hgn hE2 hW2
  generalize h1.nx = bx at *
  refine zz ?_
  refine Wo_do rfl rfl rfl rfl (A_indexArr (k := i) Und.h Tsz.h rfl rfl rfl (by omega)) ?_
  refine Wo_do rfl rfl rfl rfl (A_ld OneC.h rfl (cellAt_cells hg2 (by rw [show 0 + i * 1 = i by omega]; exact doneL_get (by omega)))) ?_
  by_cases e : (i : Int) ∈ l.map Turn.reel
  ·rw [decide_eq_true e]
   refine zz ?_
   refine ⟨i + 1, ?_, rfl, hE1, hg1, hg2, hi', rfl, rfl, ?_, rfl, rfl, rfl, trivial⟩
   ·show t.reels.length - (i + 1) < t.reels.length - i; omega
   ·rw [hgo, if_pos e, Int.add_zero]; rfl
  ·rw [decide_eq_false e]
   refine zz ?_
   refine ⟨i + 1, ?_, rfl, hE1, hg1, hg2, hi', rfl, rfl, ?_, rfl, rfl, rfl, trivial⟩
   ·show t.reels.length - (i + 1) < t.reels.length - i; omega
   ·rw [hgo, if_neg e]; rfl
 have hi2 : i = t.reels.length := by omega
 subst hi2
 have hleft : leftGo (l.map Turn.reel) 0 (t.reels.take t.reels.length) = leftS t l := by rw [List.take_length]; rfl
 rw [hleft]
 have hrow : rowAt h1 bD 0 24 = some (doneL l) := rowAt_cells hg2 (doneL_cut l)
 refine zz ?_
 refine Wo_store rfl Tsz.h rfl rfl hg2 (doneL_len l) (doneL_one l) (doneL_lay l) fun h2 hU2 => ?_
 have hE2 : Ext h h2 := hU2.ext hE1 hw hgD
 have hg3 := hU2.at'
 refine zz ?_
 refine Wc_ret (LvR_ret (vs := [.agg ⟨doneL l⟩, i64 (leftS t l)]) (resk_cell rfl (aload_row RowC.h (rowAt_cells hg3 (doneL_cut l))) (resk_tmp rfl rfl)) ?_)
 rw [judgeR, if_neg (by omega), if_neg (by omega)]; exact ⟨_, rfl, hE2⟩
end Go.Dw
/- J9: the contract of rescue.Judge. -/
namespace Go.Dw
open Go Go.Dx Go.Proofs
set_option maxRecDepth 100000
theorem judge_left {fn : Func} {m : Mem} {h : Heap} {R : VS -> Prop} {p q : Nat} {vp vq : Value} {rc : RC}
  (hp : h.get p = some (.cells [vp] 3 false)) (hq : h.get q = some (.cells [vq] 26 false)) (hpq : p ≠ q)
  (hn : rc = .none -> LvR Tryz.prog fn m [] .none h R) (hs : ∀ e, rc = .some (errV e) -> ∀ h1, (∀ b, b ≠ p -> b ≠ q -> h1.get b = h.get b) -> h1.nx = h.nx -> h1.gl = h.gl -> h1.get p = some (.cells [i64 0] 3 false) -> h1.get q = some (.cells [i64 e] 26 false) -> LvR Tryz.prog fn m [] .none h1 R)
  (hrc : rc = .none \/ ∃ e, rc = .some (errV e)) : LvR Tryz.prog fn m [.fn 67 [] [.pointer (some ⟨p, 0, none⟩), .pointer (some ⟨q, 0, none⟩)]] rc h R := by
 refine LvR_fn Tryz.func67 rfl Bod.h (by rw [Tryz.ntmps67]; rfl) ?_
 show Wz Tryz.prog ⟨67, 8, none⟩ _ _ _ _ _
 rcases hrc with rfl | ⟨e, rfl⟩
 ·refine Wz_seq ?_
  refine Wz_region ?_
  refine Wzo_rec rfl rfl rfl rfl ?_
  refine Wzo_op rfl rfl (A_assign rfl) ?_
  refine Wzo_nil ?_
  refine Wz_seq ?_
  refine Wz_region ?_
  refine Wzo_op rfl rfl (A_move rfl) ?_
  refine Wzo_op rfl rfl (A_neqNone Tryz.underlying20 rfl) ?_
  refine Wzo_nil ?_
  refine Wz_condF rfl ?_
  refine Wz_code rfl (Wc_skip ⟨rfl, .inl rfl, rfl, hn rfl⟩)
 ·refine Wz_seq ?_
  refine Wz_region ?_
  refine Wzo_rec rfl rfl rfl rfl ?_
  refine Wzo_op rfl rfl (A_assign rfl) ?_
  refine Wzo_nil ?_
  refine Wz_seq ?_
  refine Wz_region ?_
  refine Wzo_op rfl rfl (A_move rfl) ?_
  refine Wzo_op rfl rfl (A_neqSome Tryz.underlying20 rfl rfl) ?_
  refine Wzo_nil ?_
  refine Wz_condT rfl ?_
  refine Wz_code rfl ?_
  refine Wc_draw hmix [0, 1, 0, 7] [0, 1] (some 2) [([], (some 3)), ([], none)] (by kernel_rfl) (by kernel_rfl) ?_
  refine z_m ?_; refine z_t ?_
  refine Wp_eff [] (by kernel_rfl) rfl (Stl_nil rfl) rfl nb rfl (W1_store rfl rfl Tsz.h rfl rfl hp rfl rfl rfl (fun h1 hU1 => ?_))
  have hq1 := hU1.get (Ne.symm hpq) hq
  refine Wp_eff [0, 1, 2] (by kernel_rfl) rfl (by refine t_t 1 ?_; refine t_m 0 ?_; exact Stl_nil rfl) rfl nb rfl (W1_store rfl rfl Tsz.h rfl rfl hq1 rfl rfl rfl (fun h2 hU2 => ?_))
  refine Wp_end (Stl_nil rfl) nb' ?_
  refine ⟨rfl, .inl rfl, rfl, hs e rfl h2 (fun b b1 b2 => by rw [hU2.other b b2, hU1.other b b1]) (by rw [hU2.nx, hU1.nx]) (hU2.gl.trans hU1.gl) (hU2.get hpq hU1.at') hU2.at'⟩
theorem rescueJudge_sv {tc : List Value} {t : Task} {a : Option Addr} {cap : Nat} {l : List Turn} {h : Heap} (ht : TaskAt h tc t) (hf : t.Fit) (hl : TurnsAt h a l) (hlf : ∀ x ∈ l, x.Fit) (hlen : Len l) :
  Sv Tryz.prog 28 [.agg ⟨tc⟩, .slice a l.length cap] h (RetP fun v h' => v = tup2 (judgeS t l) /\ Ext h h') := by
 have ht0 := ht
 obtain ⟨am, cm, ar, cr, rfl, hM, hR⟩ := ht
 refine Sv_wf fun hw => ?_
 refine Sv_enterR Tryz.func28 rfl (by rw [Tryz.ntmps28]; rfl) ?_
 show Wc Tryz.prog ⟨28, 14, none⟩ _ _ _ _ _
 refine zz ?_
 refine Wo_box rfl rfl rfl fun h1 hE1 hW1 hg1 hn1 => ?_
 refine Wo_alloc rfl rfl Zr.h fun h2 hE2 hW2 hg2 hn2 => ?_
 refine Wo_alloc rfl rfl Zr.h fun h3 hE3 hW3 hg3 hn3 => ?_
 replace hg2 := hE3.get hg2
 replace hg1 := hE3.get (hE2.get hg1)
 have hE := (hE1.trans hE2).trans hE3
 have hpq : h1.nx ≠ h2.nx := by omega
 have h0p : h.nx <= h1.nx := by omega
 have h0q : h.nx <= h2.nx := by omega
 clear hE1 hE2 hE3 hW1 hW2 hW3 hn1 hn2 hn3
 generalize h1.nx = bp at *
 generalize h2.nx = bq at *
 clear h1 h2
 refine zz ?_
 refine Wo_defer rfl rfl rfl rfl rfl Bod.h ?_
 refine zz ?_
 refine Wo_callG rfl rfl rfl rfl rfl Bod.h rfl rfl (judge_sv (ht0.ext hE) hf (hl.ext hE) hlf hlen) (fun v h4 hv => ?_) (fun v h4 hv => ?_)
 ·simp only [judgeR] at hv
  split at hv
  ·obtain ⟨_, e, _⟩ := hv; cases e
  rename_i c0
  split at hv
  ·obtain ⟨_, e, _⟩ := hv; cases e
  rename_i c1
  obtain ⟨h5, e, hE4⟩ := hv
  cases e
  replace hg2 := hE4.get hg2
  replace hg3 := hE4.get hg3
  replace hE := hE.trans hE4
  refine zz ?_
  refine Wo_store rfl Tsz.h rfl rfl hg2 rfl rfl rfl fun h6 hU6 => ?_
  have hg4 := hU6.at'
  have hg5 := hU6.get (Ne.symm hpq) hg3
  refine zz ?_
  refine Wo_store rfl Tsz.h rfl rfl hg4 rfl rfl rfl fun h7 hU7 => ?_
  have hg6 := hU7.at'
  have hg7 := hU7.get (Ne.symm hpq) hg5
  refine Wo_store rfl Tsz.h rfl rfl hg7 rfl rfl rfl fun h8 hU8 => ?_
  have hg8 := hU8.at'
  have hg9 := hU8.get hpq hg6
  have hE8 : Ext h h8 := hU8.ext (hU7.ext (hU6.ext hE hw h0p) hw h0p) hw h0q
  refine zz ?_
  refine Wc_ret (judge_left hg9 hg8 hpq (fun _ => ?_) (fun e he => nomatch he) (.inl rfl))
  refine LvR_ret (vs := [i64 (leftS t l), i64 0]) (resk_cell rfl (aload_cell OneC.h (cellAt_cells hg9 rfl)) (resk_cell rfl (aload_cell OneC.h (cellAt_cells hg8 rfl)) rfl)) ⟨?_, hE8⟩
  rw [judgeS, if_neg c0, if_neg c1]; rfl
 ·have hv' : ∃ e, v = errV e /\ e = (judgeS t l).2 /\ (judgeS t l).1 = 0 /\ Ext h3 h4 := by
   simp only [judgeR] at hv
   split at hv
   ·rename_i c0
    obtain ⟨_, e, hx⟩ := hv; cases e
    exact ⟨_, rfl, by rw [judgeS, if_pos c0], by rw [judgeS, if_pos c0], hx⟩
   rename_i c0
   split at hv
   ·rename_i c1
    obtain ⟨_, e, hx⟩ := hv; cases e
    exact ⟨_, rfl, by rw [judgeS, if_neg c0, if_pos c1], by rw [judgeS, if_neg c0, if_pos c1], hx⟩
   obtain ⟨_, e, _⟩ := hv; cases e
  obtain ⟨e, rfl, he, he0, hE4⟩ := hv'
  replace hg2 := hE4.get hg2
  replace hg3 := hE4.get hg3
  replace hE := hE.trans hE4
  refine judge_left hg2 hg3 hpq (fun hx => nomatch hx) (fun e' hx h5 ho hn hgl g1 g2 => ?_) (.inr ⟨e, rfl⟩)
  cases hx
  refine LvR_ret (vs := [i64 0, i64 e]) (resk_cell rfl (aload_cell OneC.h (cellAt_cells g1 rfl)) (resk_cell rfl (aload_cell OneC.h (cellAt_cells g2 rfl)) rfl)) ⟨?_, ?_⟩
  ·show _ = tup2 (judgeS t l)
   unfold tup2
   rw [he0, <- he]; rfl
  ·exact ⟨fun b o hb => by
    have := hw b o hb
    rw [ho b (by omega) (by omega)]; exact hE.1 b o hb, by rw [hn]; exact hE.2.1, hgl.trans hE.2.2⟩
end Go.Dw
