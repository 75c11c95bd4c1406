/- P2: how many places some reels can use, with no program in sight: Count, and a set of places. -/
import Derived.Test.YtcjmpdpgfmjcgaaGreatDoorCG10
import Derived.Test.YtcjmpdpgfmjcgaaGreatDoorCG11
import Derived.Test.YtcjmpdpgfmjcgaaGreatDoorCG3
import Derived.Test.YtcjmpdpgfmjcgaaGreatDoorCG2
namespace Go.Dw
open Go Go.Dx Go.Proofs
theorem mem_placesL {t : Task} {r m d n : Int} : (m, d, n) ∈ placesL t r ↔ m ∈ (reelAt t r).machines ∧ (reelAt t r).ready ≤ d ∧ d ≤ (reelAt t r).due ∧ 0 ≤ n ∧ n < capT t m d := by
  unfold placesL dayP machP
  simp only [List.mem_flatMap, List.mem_map, List.mem_range, Prod.mk.injEq]
  constructor
  · rintro ⟨k, hk, m', hm, n', hn, rfl, rfl, rfl⟩
    exact ⟨hm, by omega, by omega, by omega, by omega⟩
  · rintro ⟨h1, h2, h3, h4, h5⟩
    refine ⟨(d - (reelAt t r).ready).toNat, by omega, m, h1, n.toNat, ?_, rfl, by omega, by omega⟩
    rw [show (reelAt t r).ready + ((d - (reelAt t r).ready).toNat : Int) = d by omega]
    omega
theorem nodup_flat {α β : Type} {f : α → List β} {key : β → α} : ∀ {l : List α}, l.Nodup → (∀ a ∈ l, (f a).Nodup) → (∀ a ∈ l, ∀ y ∈ f a, key y = a) → (l.flatMap f).Nodup
  | [], _, _, _ => by simp
  | a :: l, hn, h1, h2 => by
    rw [List.nodup_cons] at hn
    rw [List.flatMap_cons, List.nodup_append]
    refine ⟨h1 a List.mem_cons_self, nodup_flat hn.2 (fun b hb => h1 b (List.mem_cons_of_mem _ hb)) (fun b hb => h2 b (List.mem_cons_of_mem _ hb)), fun x hx y hy e => ?_⟩
    subst e
    obtain ⟨b, hb, hxb⟩ := List.mem_flatMap.1 hy
    have e1 := h2 a List.mem_cons_self x hx
    have e2 := h2 b (List.mem_cons_of_mem _ hb) x hxb
    exact hn.1 (by rw [← e1, e2]; exact hb)
def cellL (t : Task) (l : List Int) (m d : Nat) : List Pl := if (l.any fun k => canB t k m d) = true then (List.range ((t.machines.getD m noMach).places.getD d 0).toNat).map fun (n : Nat) => ((m : Int), t.first + (d : Int), (n : Int)) else []
def rowL (t : Task) (l : List Int) (m D : Nat) : List Pl := (List.range D).flatMap (cellL t l m)
def cellsL (t : Task) (l : List Int) (M : Nat) : List Pl := (List.range M).flatMap fun m => rowL t l m t.days.toNat
theorem cellL_len {t : Task} (hV : Valid t) {l : List Int} {m d : Nat} (hm : m < t.machines.length) (hd : d < t.days.toNat) : ((cellL t l m d).length : Int) = cellN t l m d := by
  obtain ⟨_, h2, h3, _⟩ := placeAt hV hm hd
  unfold cellL cellN
  split
  · simp only [List.length_map, List.length_range]
    rw [h2]; omega
  · rfl
theorem rowL_len {t : Task} (hV : Valid t) {l : List Int} {m : Nat} (hm : m < t.machines.length) : ∀ {D : Nat}, D ≤ t.days.toNat → ((rowL t l m D).length : Int) = rowN t l m D
  | 0, _ => rfl
  | D + 1, hD => by
    unfold rowL rowN
    rw [List.range_succ, List.flatMap_append]
    have h1 := rowL_len hV (l := l) hm (D := D) (by omega)
    have h2 := cellL_len hV (l := l) hm (d := D) (by omega)
    unfold rowL at h1
    simp only [List.length_append, List.flatMap_cons, List.flatMap_nil, List.append_nil]
    omega
theorem cellsL_len {t : Task} (hV : Valid t) {l : List Int} : ∀ {M : Nat}, M ≤ t.machines.length → ((cellsL t l M).length : Int) = sumN t l M
  | 0, _ => rfl
  | M + 1, hM => by
    unfold cellsL sumN
    rw [List.range_succ, List.flatMap_append]
    have h1 := cellsL_len hV (l := l) (M := M) (by omega)
    have h2 := rowL_len hV (l := l) (m := M) (by omega) (Nat.le_refl t.days.toNat)
    unfold cellsL at h1
    simp only [List.length_append, List.flatMap_cons, List.flatMap_nil, List.append_nil]
    omega
theorem mem_cellL {t : Task} {l : List Int} {m d : Nat} {p : Pl} : p ∈ cellL t l m d ↔ (∃ k ∈ l, canB t k m d = true) ∧ p.1 = m ∧ p.2.1 = t.first + d ∧ 0 ≤ p.2.2 ∧ p.2.2 < ((t.machines.getD m noMach).places.getD d 0) := by
  obtain ⟨a, b, c⟩ := p
  unfold cellL
  split
  · rename_i h
    simp only [List.any_eq_true] at h
    simp only [List.mem_map, List.mem_range, Prod.mk.injEq]
    constructor
    · rintro ⟨n, hn, rfl, rfl, rfl⟩
      exact ⟨h, rfl, rfl, by omega, by omega⟩
    · rintro ⟨_, rfl, rfl, h1, h2⟩
      exact ⟨c.toNat, by omega, rfl, rfl, by omega⟩
  · rename_i h
    simp only [List.any_eq_true] at h
    simp only [List.not_mem_nil, false_iff]
    rintro ⟨h1, _⟩
    exact h h1
theorem cellL_nodup (t : Task) (l : List Int) (m d : Nat) : (cellL t l m d).Nodup := by
  unfold cellL
  split
  · refine Go.Mt.map_nodup (fun a _ b _ e => ?_) List.nodup_range
    simp only [Prod.mk.injEq] at e; omega
  · simp
theorem cellsL_nodup (t : Task) (l : List Int) (M : Nat) : (cellsL t l M).Nodup := by
  refine nodup_flat (key := fun p => p.1.toNat) List.nodup_range (fun m _ => ?_) (fun m _ p hp => ?_)
  · refine nodup_flat (key := fun p => (p.2.1 - t.first).toNat) List.nodup_range (fun d _ => cellL_nodup t l m d) (fun d _ p hp => ?_)
    have := (mem_cellL.1 hp).2.2.1
    omega
  · obtain ⟨d, _, h⟩ := List.mem_flatMap.1 hp
    have := (mem_cellL.1 h).2.1
    omega
/-- The places of some reels are counted. -/
theorem mem_cellsL {t : Task} (hV : Valid t) {l : List Int} (hl : ∀ k ∈ l, 0 ≤ k ∧ k < t.reels.length) {p : Pl} : p ∈ cellsL t l t.machines.length ↔ ∃ k ∈ l, p ∈ placesL t k := by
  obtain ⟨m, d, n⟩ := p
  unfold cellsL rowL
  simp only [List.mem_flatMap, List.mem_range, mem_cellL, mem_placesL]
  constructor
  · rintro ⟨m', hm, d', hd, ⟨k, hk, hcan⟩, rfl, rfl, h1, h2⟩
    have hcan := of_decide_eq_true hcan
    refine ⟨k, hk, hcan.1, hcan.2.1, hcan.2.2, h1, ?_⟩
    unfold capT
    rw [show ((m' : Int)).toNat = m' by omega, show (t.first + (d' : Int) - t.first).toNat = d' by omega]
    exact h2
  · rintro ⟨k, hk, h1, h2, h3, h4, h5⟩
    obtain ⟨g1, g2⟩ := hl k hk
    have hk' : k.toNat < t.reels.length := by omega
    have e : reelAt t k = t.reels[k.toNat] := by
      unfold reelAt
      simp [List.getD_eq_getElem?_getD, hk']
    obtain ⟨_, q1, _, ⟨q2, q3, q4⟩, _⟩ := hV.rs _ (List.getElem_mem hk')
    rw [← e] at q1 q2 q3 q4
    have := q1 m h1
    refine ⟨m.toNat, by omega, (d - t.first).toNat, by have := hV.d0; omega, ⟨k, hk, ?_⟩, by omega, by omega, h4, ?_⟩
    · refine decide_eq_true ?_
      rw [show ((m.toNat : Nat) : Int) = m by omega, show t.first + (((d - t.first).toNat : Nat) : Int) = d by omega]
      exact ⟨h1, h2, h3⟩
    · unfold capT at h5; exact h5
theorem count_keys {t : Task} (hV : Valid t) {l : List Int} (hl : ∀ k ∈ l, 0 ≤ k ∧ k < t.reels.length) {ks : List Pl} (hn : ks.Nodup) (hk : ∀ p, p ∈ ks ↔ ∃ k ∈ l, p ∈ placesL t k) : (ks.length : Int) = countS t l := by
  have h1 := Go.Mt.nodup_le (m := cellsL t l t.machines.length) hn (fun p hp => (mem_cellsL hV hl).2 ((hk p).1 hp))
  have h2 := Go.Mt.nodup_le (m := ks) (cellsL_nodup t l t.machines.length) (fun p hp => (hk p).2 ((mem_cellsL hV hl).1 hp))
  have h3 := cellsL_len hV (l := l) (Nat.le_refl t.machines.length)
  unfold countS
  omega
theorem countS_congr {t : Task} {l l' : List Int} (h : ∀ k, k ∈ l ↔ k ∈ l') : countS t l = countS t l' := by
  have hany : ∀ m d : Int, (l.any fun k => canB t k m d) = (l'.any fun k => canB t k m d) := fun m d => by
    rw [Bool.eq_iff_iff, List.any_eq_true, List.any_eq_true]
    exact ⟨fun ⟨k, hk, hc⟩ => ⟨k, (h k).1 hk, hc⟩, fun ⟨k, hk, hc⟩ => ⟨k, (h k).2 hk, hc⟩⟩
  have h1 : ∀ m d, cellN t l m d = cellN t l' m d := fun m d => by unfold cellN; rw [hany]
  have h2 : ∀ m D, rowN t l m D = rowN t l' m D := fun m D => by
    induction D with
    | zero => rfl
    | succ D ih => simp only [rowN, ih, h1]
  have h3 : ∀ M, sumN t l M = sumN t l' M := fun M => by
    induction M with
    | zero => rfl
    | succ M ih => simp only [sumN, ih, h2]
  exact h3 _
/-! ### what Accept answers -/
def lateBad (t : Task) (l : List Turn) (bef : Int) (x : Lat) : Bool := decide (((x.reel < 0 ∨ (t.reels.length : Int) - 1 < x.reel) ∨ x.reel ∈ l.map Turn.reel) ∨ x.reel ≤ bef)
def lateGo (t : Task) (l : List Turn) : Nat → Int → List Lat → Int × Int
  | i, _, [] => if (i : Int) + l.length ≠ t.reels.length then (i, 142) else (0, 0)
  | i, bef, x :: xs => if lateBad t l bef x = true then (i, 142) else if holdsB t (l.map Turn.reel) x = false then (i, 143) else lateGo t l (i + 1) x.reel xs
def acceptS (t : Task) (l : List Turn) (late : List Lat) : Int × Int := if (judgeS t l).2 ≠ 0 then (0, (judgeS t l).2) else lateGo t l 0 (-1) late
end Go.Dw
/- P3: the contract of rescue.Accept. -/
namespace Go.Dw
open Go Go.Dx Go.Proofs
set_option maxRecDepth 100000
/-- Behind Accept: what is recovered is its error. -/
theorem accept_left {fn : Func} {m : Mem} {h : Heap} {R : VS → Prop} {q : Nat} {vq : Value} {rc : RC} (hq : h.get q = some (.cells [vq] 26 false))
    (hn : rc = .none → LvR Tryz.prog fn m [] .none h R) (hs : ∀ e, rc = .some (errV e) → ∀ h1, Upd h q (.cells [i64 e] 26 false) h1 → LvR Tryz.prog fn m [] .none h1 R)
    (hrc : rc = .none ∨ ∃ e, rc = .some (errV e)) : LvR Tryz.prog fn m [.fn 72 [] [.pointer (some ⟨q, 0, none⟩)]] rc h R := by
  refine LvR_fn Tryz.func72 rfl Bod.h (by rw [Tryz.ntmps72]; rfl) ?_
  show Wz Tryz.prog ⟨72, 7, none⟩ _ _ _ _ _
  rcases hrc with rfl | ⟨e, rfl⟩
  · refine Wz_seq ?_
    refine Wz_region ?_
    refine Wzo_rec rfl rfl rfl rfl ?_
    refine Wzo_op rfl rfl (A_assign rfl) ?_
    refine Wzo_nil ?_
    refine Wz_seq ?_
    refine Wz_region ?_
    refine Wzo_op rfl rfl (A_move rfl) ?_
    refine Wzo_op rfl rfl (A_neqNone Tryz.underlying20 rfl) ?_
    refine Wzo_nil ?_
    refine Wz_condF rfl ?_
    refine Wz_code rfl (Wc_skip ⟨rfl, .inl rfl, rfl, hn rfl⟩)
  · refine Wz_seq ?_
    refine Wz_region ?_
    refine Wzo_rec rfl rfl rfl rfl ?_
    refine Wzo_op rfl rfl (A_assign rfl) ?_
    refine Wzo_nil ?_
    refine Wz_seq ?_
    refine Wz_region ?_
    refine Wzo_op rfl rfl (A_move rfl) ?_
    refine Wzo_op rfl rfl (A_neqSome Tryz.underlying20 rfl rfl) ?_
    refine Wzo_nil ?_
    refine Wz_condT rfl ?_
    refine Wz_code rfl ?_
    refine zz ?_
    refine Wo_do rfl rfl rfl rfl (A_assert rfl) ?_
    refine Wo_store rfl Tsz.h rfl rfl hq rfl rfl rfl fun h1 hU1 => ?_
    refine zz ?_
    exact ⟨rfl, .inl rfl, rfl, hs e rfl h1 hU1⟩
theorem acc_pan {h0 h : Heap} {m : Mem} {rs : List Nat} {q : Nat} {vq : Value} {at' e : Int} (hw : WF h0) (hE : Ext h0 h) (hC : Colls h0 h rs) (hq : h.get q = some (.cells [vq] 26 false)) (hqn : h0.nx ≤ q) (h6 : m 6 = some (i64 at')) (h7 : m 7 = some (.pointer (some ⟨q, 0, none⟩))) :
    LvR Tryz.prog Tryz.f30 m (rs.map .coll ++ [.fn 72 [] [.pointer (some ⟨q, 0, none⟩)]]) (.some (errV e)) h (RetP fun v h' => v = tup2 (at', e) ∧ Ext h0 h') := by
  refine LvR_colls hC.nd hC.defd (accept_left (hC.get hq) (fun hx => nomatch hx) (fun e' hx h1 hU => ?_) (.inr ⟨e, rfl⟩))
  cases hx
  exact LvR_ret (vs := [i64 at', i64 e]) (resk_tmp h6 (resk_cell h7 (aload_cell OneC.h (cellAt_cells hU.at' rfl)) rfl)) ⟨rfl, hU.ext (hC.ext0 hE hw) hw hqn⟩
theorem acc_ret {h0 h : Heap} {m : Mem} {rs : List Nat} {q : Nat} {at' e : Int} (hw : WF h0) (hE : Ext h0 h) (hC : Colls h0 h rs) (hq : h.get q = some (.cells [i64 e] 26 false)) (h6 : m 6 = some (i64 at')) (h7 : m 7 = some (.pointer (some ⟨q, 0, none⟩))) :
    LvR Tryz.prog Tryz.f30 m (rs.map .coll ++ [.fn 72 [] [.pointer (some ⟨q, 0, none⟩)]]) .none h (RetP fun v h' => v = tup2 (at', e) ∧ Ext h0 h') := by
  refine LvR_colls hC.nd hC.defd (accept_left (hC.get hq) (fun _ => ?_) (fun e' hx => nomatch hx) (.inl rfl))
  exact LvR_ret (vs := [i64 at', i64 e]) (resk_tmp h6 (resk_cell h7 (aload_cell OneC.h (cellAt_cells (hC.get hq) rfl)) rfl)) ⟨rfl, hC.ext0 hE hw⟩
theorem LatsAt.at {h : Heap} {a : Option Addr} {l : List Lat} (hl : LatsAt h a l) {k : Nat} (hk : k < l.length) : ∃ b o oa ab cb, a = some ⟨b, o, oa⟩ ∧ rowAt h b (o + k * 2) 2 = some [i64 l[k].reel, .slice ab l[k].by'.length cb] ∧ cellAt h b (o + k * 2 + 0) = some (i64 l[k].reel) ∧ SrcAt i64 h ab l[k].by' := by
  obtain ⟨b, o, oa, e, row, h1, ab, cb, rfl, h2⟩ := hl k hk
  exact ⟨b, o, oa, ab, cb, e, h1, cell_of_row h1 rfl, h2⟩
/-- While late reels are looked at. -/
structure AccI (h0 h : Heap) (t : Task) (am ar : Option Addr) (cm cr : Nat) (l : List Turn) (b1 bD bb q : Nat) (rs : List Nat) : Prop where
  ext : Ext h0 h
  g1 : h.get b1 = some (.cells [i64 t.first, i64 t.days, .slice am t.machines.length cm, .slice ar t.reels.length cr] 25 false)
  gD : h.get bD = some (.cells (doneL l) 124 false)
  gb : h.get bb = some (.cells (benchC t am ar cm cr (.map none)) 116 false)
  gq : h.get q = some (.cells [i64 0] 26 false)
  co : Colls h0 h rs
theorem AccI.grow {h0 h h' : Heap} {t : Task} {am ar : Option Addr} {cm cr : Nat} {l : List Turn} {b1 bD bb q : Nat} {rs : List Nat} (a : AccI h0 h t am ar cm cr l b1 bD bb q rs) (he : Ext h h') : AccI h0 h' t am ar cm cr l b1 bD bb q rs :=
  ⟨a.ext.trans he, he.get a.g1, he.get a.gD, he.get a.gb, he.get a.gq, a.co.ext he⟩
theorem AccI.ck {h0 h h' : Heap} {t : Task} {am ar : Option Addr} {cm cr : Nat} {l : List Turn} {b1 bD bb q : Nat} {rs rs' : List Nat} (a : AccI h0 h t am ar cm cr l b1 bD bb q rs) (hk : CK h h') (he : Ext h0 h') (hC : Colls h0 h' rs') : AccI h0 h' t am ar cm cr l b1 bD bb q rs' :=
  ⟨he, hk _ _ _ _ a.g1, hk _ _ _ _ a.gD, hk _ _ _ _ a.gb, hk _ _ _ _ a.gq, hC⟩
end Go.Dw
/- P4: the contract of rescue.Accept, continued. -/
namespace Go.Dw
open Go Go.Dx Go.Proofs
set_option maxRecDepth 100000
/-- The keys of a set of places: those of some reels. -/
def SetIs (t : Task) (h : Heap) (bm : Nat) (ks : List Int) (pre : List Pl) : Prop := ∃ lu, MapB placeK h bm lu ∧ Once lu ∧ ∀ p, lkp p lu = if (∃ k ∈ ks, p ∈ placesL t k) ∨ p ∈ pre then some (.bool true) else none
theorem SetIs.some' {t : Task} {h h' : Heap} {bm : Nat} {ks : List Int} {pre : List Pl} (a : SetIs t h bm ks pre) (he : ∀ o, h.get bm = some o → h'.get bm = some o) : SetIs t h' bm ks pre := by
  obtain ⟨lu, h1, h2, h3⟩ := a; exact ⟨lu, MapB.some placeK h1 he, h2, h3⟩
theorem SetIs.ext {t : Task} {h h' : Heap} {bm : Nat} {ks : List Int} {pre : List Pl} (a : SetIs t h bm ks pre) (he : Ext h h') : SetIs t h' bm ks pre := a.some' fun _ => he.get
theorem SetIs.ne {t : Task} {h : Heap} {bm : Nat} {ks : List Int} {pre : List Pl} (a : SetIs t h bm ks pre) {c : Nat} {vs : List Value} {el : TypeId} {op : Bool} (hg : h.get c = some (.cells vs el op)) : c ≠ bm := by
  obtain ⟨lu, h1, _⟩ := a; exact mapB_ne h1 hg
theorem SetIs.lt {t : Task} {h : Heap} {bm : Nat} {ks : List Int} {pre : List Pl} (a : SetIs t h bm ks pre) (hw : WF h) : bm < h.nx := by
  obtain ⟨lu, h1, _⟩ := a; exact h1.lt placeK hw
theorem SetIs.ndefd {t : Task} {h : Heap} {bm : Nat} {ks : List Int} {pre : List Pl} (a : SetIs t h bm ks pre) : h.get bm ≠ some .defd := by
  obtain ⟨lu, ⟨es, c, h1, _⟩, _⟩ := a; rw [h1]; simp
theorem SetIs.done {t : Task} {h : Heap} {bm : Nat} {ks : List Int} {k : Int} (a : SetIs t h bm ks (placesL t k)) : SetIs t h bm (ks ++ [k]) [] := by
  obtain ⟨lu, h1, h2, h3⟩ := a
  refine ⟨lu, h1, h2, fun p => ?_⟩
  rw [h3]
  congr 1
  simp only [List.mem_append, List.mem_singleton, List.not_mem_nil, or_false, eq_iff_iff]
  constructor
  · rintro (⟨x, hx, hp⟩ | hp)
    · exact ⟨x, .inl hx, hp⟩
    · exact ⟨k, .inr rfl, hp⟩
  · rintro ⟨x, hx | hx, hp⟩
    · exact .inl ⟨x, hx, hp⟩
    · subst hx; exact .inr hp
theorem SetIs.count {t : Task} (hV : Valid t) {h : Heap} {bm : Nat} {ks : List Int} (a : SetIs t h bm ks []) (hks : ∀ k ∈ ks, 0 ≤ k ∧ k < t.reels.length) : ∃ lu, MapB placeK h bm lu ∧ (lu.length : Int) = countS t ks := by
  obtain ⟨lu, h1, h2, h3⟩ := a
  refine ⟨lu, h1, ?_⟩
  have := count_keys hV hks (ks := lu.map Prod.fst) h2 (fun p => by
    have h4 := h3 p
    simp only [List.not_mem_nil, or_false] at h4
    constructor
    · intro hm
      refine Classical.byContradiction fun hn => ?_
      rw [if_neg hn, lkp_none_iff] at h4
      exact h4 hm
    · intro hx
      refine Classical.byContradiction fun hn => ?_
      rw [← lkp_none_iff] at hn
      rw [if_pos hx, hn] at h4
      cases h4)
  simpa using this
set_option maxHeartbeats 8000000 in
theorem rescueAccept_sv {tc : List Value} {t : Task} {a al : Option Addr} {cap capl : Nat} {l : List Turn} {late : List Lat} {h : Heap} (ht : TaskAt h tc t) (hf : t.Fit) (hl : TurnsAt h a l) (hlf : ∀ x ∈ l, x.Fit) (hlen : Len l) (hL : LatsAt h al late) (hLf : ∀ x ∈ late, x.Fit) (hLlen : Len late) :
    Sv Tryz.prog 30 [.agg ⟨tc⟩, .slice a l.length cap, .slice al late.length capl] h (RetP fun v h' => v = tup2 (acceptS t l late) ∧ Ext h h') := by
  have ht0 := ht
  obtain ⟨am, cm, ar, cr, rfl, hM, hR⟩ := ht
  refine Sv_wf fun hw => ?_
  refine Sv_enterR Tryz.func30 rfl (by rw [Tryz.ntmps30]; rfl) ?_
  show Wc Tryz.prog ⟨30, 140, none⟩ _ _ _ _ _
  refine zz ?_
  refine Wo_box rfl rfl rfl fun h1 hE1 hW1 hg1 hn1 => ?_
  refine zz ?_
  refine Wo_alloc rfl rfl Zr.h fun h2 hE2 hW2 hg2 hn2 => ?_
  replace hg1 := hE2.get hg1
  have hqn : h.nx ≤ h1.nx := by omega
  replace hE1 := hE1.trans hE2
  clear hE2 hW1 hW2 hn1 hn2
  generalize hb1 : h.nx = b1 at *
  generalize h1.nx = bq at *
  replace hqn : h.nx ≤ bq := by omega
  clear hb1 h1
  refine zz ?_
  refine Wo_defer rfl rfl rfl rfl rfl Bod.h ?_
  refine zz ?_
  refine Wo_callG rfl rfl rfl rfl rfl Bod.h rfl rfl (judge_sv (ht0.ext hE1) hf (hl.ext hE1) hlf hlen) (fun v h4 hv => ?_) (fun v h4 hv => ?_)
  rotate_left
  · have hv' : ∃ e, v = errV e ∧ e = (judgeS t l).2 ∧ e ≠ 0 ∧ Ext h2 h4 := by
      simp only [judgeR] at hv
      split at hv
      · rename_i c0
        obtain ⟨_, e, hx⟩ := hv; cases e
        exact ⟨_, rfl, by rw [judgeS, if_pos c0], c0, hx⟩
      rename_i c0
      split at hv
      · rename_i c1
        obtain ⟨_, e, hx⟩ := hv; cases e
        exact ⟨_, rfl, by rw [judgeS, if_neg c0, if_pos c1], c1, hx⟩
      obtain ⟨_, e, _⟩ := hv; cases e
    obtain ⟨e, rfl, he, he0, hE4⟩ := hv'
    have hacc : acceptS t l late = (0, e) := by rw [acceptS, ← he, if_pos he0]
    rw [hacc]
    exact acc_pan (rs := []) hw (hE1.trans hE4) (Colls.nil h h4) (hE4.get hg2) hqn rfl rfl
  have hv' : v = .tuple ⟨[.agg ⟨doneL l⟩, i64 (leftS t l)]⟩ ∧ errS t = 0 ∧ judgedS t l = 0 ∧ Ext h2 h4 := by
    simp only [judgeR] at hv
    split at hv
    · obtain ⟨_, e, _⟩ := hv; cases e
    rename_i c0
    split at hv
    · obtain ⟨_, e, _⟩ := hv; cases e
    rename_i c1
    obtain ⟨h5, e, hE4⟩ := hv
    cases e
    exact ⟨rfl, Classical.not_not.1 c0, Classical.not_not.1 c1, hE4⟩
  obtain ⟨rfl, c0, c1, hE4⟩ := hv'
  have hV := valid_of c0
  have hrs := hV.r1
  have hll := judged_len (judgedS_arg c1)
  have hJ : (judgeS t l).2 = 0 := by rw [judgeS, if_neg (by omega), if_neg (by omega)]
  replace hE1 := hE1.trans hE4
  replace hg1 := hE4.get hg1
  replace hg2 := hE4.get hg2
  clear hE4 hv
  refine zz ?_
  refine Wo_allocStore rfl rfl Zr.h Tsz.h rfl (fun _ => rfl) rfl (doneL_len l) (doneL_one l) fun h5 hE5 hW5 hg5 hn5 => ?_
  replace hE1 := hE1.trans hE5
  replace hg1 := hE5.get hg1
  replace hg2 := hE5.get hg2
  clear hE5 hW5 hn5
  generalize h4.nx = bD at *
  clear h4 h2
  refine zz ?_
  refine Wo_do rfl rfl rfl rfl (A_build rfl rfl) ?_
  refine Wo_box rfl rfl rfl fun h6 hE6 hW6 hg6 hn6 => ?_
  have hI : AccI h h6 t am ar cm cr l b1 bD h5.nx bq [] := ⟨hE1.trans hE6, hE6.get hg1, hE6.get hg5, hg6, hE6.get hg2, Colls.nil _ _⟩
  clear hE1 hg1 hg2 hg5 hE6 hW6 hg6 hn6
  generalize h5.nx = bb at *
  clear h5
  refine zz ?_
  refine Wc_loop (fun (s : Nat × Int) m ds h' => ∃ rs, ds = rs.map .coll ++ [.fn 72 [] [.pointer (some ⟨bq, 0, none⟩)]] ∧ AccI h h' t am ar cm cr l b1 bD bb bq rs ∧ s.1 ≤ late.length ∧ lateGo t l 0 (-1) late = lateGo t l s.1 s.2 (late.drop s.1) ∧ (s.1 = 0 ∧ s.2 = -1 ∨ 0 < s.1 ∧ ∃ hj : s.1 - 1 < late.length, s.2 = late[s.1 - 1].reel) ∧ ((s.1 : Int) ≤ s.2 + 1 ∧ -1 ≤ s.2 ∧ s.2 < 24) ∧
      AllK m [(1, .slice a l.length cap), (2, .slice al late.length capl), (3, .pointer (some ⟨b1, 0, none⟩)), (7, .pointer (some ⟨bq, 0, none⟩)), (8, .pointer (some ⟨bD, 0, none⟩)), (10, .pointer (some ⟨bb, 0, none⟩)), (27, .slice al late.length capl), (28, i64 late.length), (29, i64 s.1)]) (fun s => late.length - s.1) (0, -1) ?_ ?_
  · exact ⟨[], rfl, hI, Nat.zero_le _, rfl, .inl ⟨rfl, rfl⟩, by decide, rfl, rfl, rfl, rfl, rfl, rfl, rfl, rfl, rfl, trivial⟩
  clear hI h6
  rintro ⟨i, bef⟩ m ds h1 ⟨rs, rfl, hI, hi, hrec, hbef, hbb, hall⟩
  simp only at hi hrec hbef hbb hall
  refine Wc_wf fun hw1 => ?_
  obtain ⟨hE1, hg1, hgD, hgb, hgq, hC⟩ := hI
  refine Wc.le ?_ (Le.kn hall)
  refine zz ?_
  refine Wo_dec rfl rfl rfl rfl (A_lss rfl rfl) (fun hip => ?_) (fun hip => ?_)
  rotate_left
  · have hi2 : i = late.length := by omega
    have hend : lateGo t l 0 (-1) late = if (late.length : Int) + l.length ≠ t.reels.length then ((late.length : Int), 142) else (0, 0) := by
      rw [hrec, hi2, List.drop_length]; rfl
    refine zz ?_
    by_cases c2 : (late.length : Int) + l.length = t.reels.length
    rotate_left
    · refine Wo_do rfl rfl rfl rfl (A_ff c2 (A_eql rfl rfl)) ?_
      refine zz ?_
      refine Wo_callM rfl rfl rfl rfl rfl Bod.h rfl rfl (must_sv false _ _) (fun hb => by cases hb) (fun _ => ?_)
      have hacc : acceptS t l late = ((late.length : Int), 142) := by rw [acceptS, if_neg (by omega), hend, if_pos c2]
      rw [hacc]
      exact acc_pan hw hE1 hC hgq hqn rfl rfl
    refine Wo_do rfl rfl rfl rfl (A_tt c2 (A_eql rfl rfl)) ?_
    refine zz ?_
    refine Wo_callM rfl rfl rfl rfl rfl Bod.h rfl rfl (must_sv true _ _) (fun _ => ?_) (fun hb => by cases hb)
    refine zz ?_
    refine Wo_store rfl Tsz.h rfl rfl hgq rfl rfl rfl fun h2 hU2 => ?_
    refine zz ?_
    have hacc : acceptS t l late = (0, 0) := by rw [acceptS, if_neg (by omega), hend, if_neg (by omega)]
    rw [hacc]
    refine Wc_ret (acc_ret hw (hU2.ext hE1 hw hqn) (hC.keep fun r hr => hU2.get (fun e => by rw [e, hgq] at hr; cases hr) hr) hU2.at' rfl rfl)
  have hi' : i < late.length := by omega
  obtain ⟨b, o, oa, ab, cb, rfl, hrow, hcr, hB⟩ := (hL.ext hE1).at hi'
  have hdr : late.drop i = late[i] :: late.drop (i + 1) := List.drop_eq_getElem_cons hi'
  rw [hdr, lateGo] at hrec
  have hxf := hLf _ (List.getElem_mem hi')
  have hxr := hxf.reel
  generalize hxe : late[i] = x at *
  obtain ⟨xr, by1⟩ := x
  have hbl : Len by1 := hxf.len
  simp only at hrow hcr hB hxr
  refine zz ?_
  refine Wo_do rfl rfl rfl rfl (A_ix Und.h Tsz.h rfl rfl) ?_
  refine zz ?_
  refine Wo_alloc rfl rfl Zr.h fun h2 hE2 hW2 hgx hn2 => ?_
  refine zz ?_
  refine Wo_store rfl Tsz.h rfl rfl hgx rfl rfl rfl fun h3 hU3 => ?_
  have hE3 : Ext h1 h3 := hU3.ext hE2 hw1 (Nat.le_refl _)
  replace hgx := hU3.at'
  replace hg1 := hE3.get hg1
  replace hgD := hE3.get hgD
  replace hgb := hE3.get hgb
  replace hgq := hE3.get hgq
  replace hC := hC.ext hE3
  replace hE1 := hE1.trans hE3
  replace hB := hB.ext hE3
  clear hU3 hE2 hW2 hn2 hrow hcr hE3
  generalize h1.nx = bx at *
  clear hw1 h2
  clear h1
  refine zz ?_
  have hlb : lateBad t l bef ⟨xr, by1⟩ = decide (((xr < 0 ∨ (t.reels.length : Int) - 1 < xr) ∨ xr ∈ l.map Turn.reel) ∨ xr ≤ bef) := rfl
  by_cases c2 : xr < 0 ∨ (t.reels.length : Int) - 1 < xr
  · refine Wc_draw hmix [0, 1, 0, 4, 12, 28, 63, 127, 255, 511, 1023, 2047, 4095, 8191, 16383, 32767, 65535, 131071, 262143, 524287, 1048575, 2097151, 4194303, 2097151, 2097151, 18874367, 60817407, 127926271, 262143999, 536870911, 1073741823, 2147483647, 4294967295] [0, 1, 2, 3, 4, 5] (some 6) [([7, 8, 9, 10, 11, 12, 13, 14, 15, 16, 17, 18, 19, 20, 21, 22, 23, 24, 25, 26, 27, 28, 29, 30, 31], (some 32)), ([], none)] (by kernel_rfl) (by kernel_rfl) ?_
    refine z_f ?_; refine z_l ?_; refine z_f ?_; refine z_l ?_; refine z_c ?_; refine z_u ?_
    refine Wp_eff [0, 1, 2, 3, 4, 5] (by kernel_rfl) rfl (Stl_nil rfl) rfl nb rfl (W1_callV rfl rfl rfl rfl rfl Bod.h (Sv_tt c2 (out_sv _ _ _ _)) ?_)
    refine z_n ?_; refine z_m ?_; refine g_f ?_; refine g_l ?_; refine g_v ?_; refine g_x ?_; refine g_i ?_; refine g_l ?_; refine g_n ?_; refine z_p ?_; refine z_m ?_; refine g_m ?_; refine z_o ?_; refine g_m ?_; refine g_f ?_; refine g_l ?_; refine g_m ?_; refine g_m ?_; refine g_u ?_; refine g_i ?_; refine g_f ?_; refine g_l ?_; refine z_o ?_; refine g_p ?_; refine z_p ?_
    refine Wp_eff [0, 1, 2, 3, 4, 5, 6, 7, 8, 9, 10, 11, 12, 13, 14, 15, 16, 17, 18, 19, 20, 21, 22, 23, 24, 25, 26, 27, 28, 29, 30, 31] (by kernel_rfl) rfl (Stl_nil rfl) rfl nb rfl (W1_callM rfl rfl rfl rfl rfl Bod.h (must_sv false _ _) (fun hb => nomatch hb) (fun _ => ?_))
    have hacc : acceptS t l late = ((i : Int), 142) := by rw [acceptS, if_neg (by omega), hrec, hlb, decide_eq_true (.inl (.inl c2)), if_pos rfl]
    rw [hacc]
    exact acc_pan hw hE1 hC hgq hqn rfl rfl
  obtain ⟨r, rfl⟩ : ∃ r : Nat, xr = r := ⟨xr.toNat, by omega⟩
  have hrl : r < t.reels.length := by omega
  have hr24 : r < 24 := by omega
  have hcD : cellAt h3 bD (0 + r * 1) = some (.bool (decide ((r : Int) ∈ l.map Turn.reel))) := cellAt_cells hgD (by rw [show 0 + r * 1 = r by omega]; exact doneL_get hr24)
  by_cases c3 : (r : Int) ∈ l.map Turn.reel
  · refine Wc_draw hmix [0, 1, 0, 4, 12, 28, 63, 127, 255, 511, 1023, 2047, 4095, 8191, 16383, 32767, 65535, 131071, 262143, 524287, 1048575, 2097151, 4194303, 2097151, 2097151, 18874367, 60817407, 127926271, 262143999, 536870911, 1073741823, 2147483647, 4294967295] [0, 1, 2, 3, 4, 5] (some 6) [([7, 8, 9, 10, 11, 12, 13, 14, 15, 16, 17, 18, 19, 20, 21, 22, 23, 24, 25, 26, 27, 28, 29, 30, 31], (some 32)), ([], none)] (by kernel_rfl) (by kernel_rfl) ?_
    refine z_f ?_; refine z_l ?_; refine z_f ?_; refine z_l ?_; refine z_c ?_; refine z_u ?_
    refine Wp_eff [0, 1, 2, 3, 4, 5] (by kernel_rfl) rfl (Stl_nil rfl) rfl nb rfl (W1_callV rfl rfl rfl rfl rfl Bod.h (Sv_ff c2 (out_sv _ _ _ _)) ?_)
    refine z_n ?_; refine z_m ?_; refine g_f ?_; refine g_l ?_; refine g_v ?_; refine g_x ?_
    first | refine Wp_off rfl rfl rfl rfl ?_ | refine Wp_pure rfl rfl rfl rfl rfl (fun _ => A_indexArr (k := r) (z := max 0 (min (r : Int) 23)) Und.h Tsz.h rfl rfl (by omega) hr24) ?_
    first | refine Wp_off rfl rfl rfl rfl ?_ | refine Wp_pure rfl rfl rfl rfl rfl (fun _ => A_tt c3 (A_ld OneC.h rfl hcD)) ?_
    refine g_n ?_; refine z_p ?_; refine z_m ?_; refine g_m ?_; refine z_o ?_; refine g_m ?_; refine g_f ?_; refine g_l ?_; refine g_m ?_; refine g_m ?_; refine g_u ?_; refine g_i ?_; refine g_f ?_; refine g_l ?_; refine z_o ?_; refine g_p ?_; refine z_p ?_
    refine Wp_eff [0, 1, 2, 3, 4, 5, 6, 7, 8, 9, 10, 11, 12, 13, 14, 15, 16, 17, 18, 19, 20, 21, 22, 23, 24, 25, 26, 27, 28, 29, 30, 31] (by kernel_rfl) rfl (Stl_nil rfl) rfl nb rfl (W1_callM rfl rfl rfl rfl rfl Bod.h (must_sv false _ _) (fun hb => nomatch hb) (fun _ => ?_))
    have hacc : acceptS t l late = ((i : Int), 142) := by rw [acceptS, if_neg (by omega), hrec, hlb, decide_eq_true (.inl (.inr c3)), if_pos rfl]
    rw [hacc]
    exact acc_pan hw hE1 hC hgq hqn rfl rfl
  by_cases c4 : (r : Int) ≤ bef
  · rcases hbef with ⟨_, rfl⟩ | ⟨hi0, hj, hbe⟩
    · exfalso; omega
    obtain ⟨b', o', oa', _, _, e', _, hcp, _⟩ := (hL.ext hE1).at hj
    cases e'
    rw [← hbe] at hcp
    refine Wc_draw hmix [0, 1, 0, 4, 12, 28, 63, 127, 255, 511, 1023, 2047, 4095, 8191, 16383, 32767, 65535, 131071, 262143, 524287, 1048575, 2097151, 4194303, 2097151, 2097151, 18874367, 60817407, 127926271, 262143999, 536870911, 1073741823, 2147483647, 4294967295] [0, 1, 2, 3, 4, 5] (some 6) [([7, 8, 9, 10, 11, 12, 13, 14, 15, 16, 17, 18, 19, 20, 21, 22, 23, 24, 25, 26, 27, 28, 29, 30, 31], (some 32)), ([], none)] (by kernel_rfl) (by kernel_rfl) ?_
    refine z_f ?_; refine z_l ?_; refine z_f ?_; refine z_l ?_; refine z_c ?_; refine z_u ?_
    refine Wp_eff [0, 1, 2, 3, 4, 5] (by kernel_rfl) rfl (Stl_nil rfl) rfl nb rfl (W1_callV rfl rfl rfl rfl rfl Bod.h (Sv_ff c2 (out_sv _ _ _ _)) ?_)
    refine z_n ?_; refine z_m ?_; refine g_f ?_; refine g_l ?_; refine g_v ?_; refine g_x ?_
    first | refine Wp_off rfl rfl rfl rfl ?_ | refine Wp_pure rfl rfl rfl rfl rfl (fun _ => A_indexArr (k := r) (z := max 0 (min (r : Int) 23)) Und.h Tsz.h rfl rfl (by omega) hr24) ?_
    first | refine Wp_off rfl rfl rfl rfl ?_ | refine Wp_pure rfl rfl rfl rfl rfl (fun _ => A_ff c3 (A_ld OneC.h rfl hcD)) ?_
    refine g_n ?_; refine z_p ?_; refine z_m ?_; refine g_m ?_
    first | refine Wp_off rfl rfl rfl rfl ?_ | refine Wp_pure rfl rfl rfl rfl rfl (fun _ => A_ff (by omega) (A_eql rfl rfl)) ?_
    refine g_m ?_; refine g_f ?_; refine g_l ?_; refine g_m ?_; refine g_m ?_; refine g_u ?_
    first | refine Wp_off rfl rfl rfl rfl ?_ | refine Wp_pure rfl rfl rfl rfl rfl (fun _ => A_indexAddr (k := i - 1) (z := (i : Int) - 1) Und.h Tsz.h rfl rfl (by omega) hj) ?_
    refine g_f ?_; refine g_l ?_
    first | refine Wp_off rfl rfl rfl rfl ?_ | refine Wp_pure rfl rfl rfl rfl rfl (fun _ => A_ff (by omega) (A_gtr rfl rfl)) ?_
    refine g_p ?_; refine z_p ?_
    refine Wp_eff [0, 1, 2, 3, 4, 5, 6, 7, 8, 9, 10, 11, 12, 13, 14, 15, 16, 17, 18, 19, 20, 21, 22, 23, 24, 25, 26, 27, 28, 29, 30, 31] (by kernel_rfl) rfl (Stl_nil rfl) rfl nb rfl (W1_callM rfl rfl rfl rfl rfl Bod.h (must_sv false _ _) (fun hb => nomatch hb) (fun _ => ?_))
    have hacc : acceptS t l late = ((i : Int), 142) := by rw [acceptS, if_neg (by omega), hrec, hlb, decide_eq_true (.inr c4), if_pos rfl]
    rw [hacc]
    exact acc_pan hw hE1 hC hgq hqn rfl rfl
  rw [hlb, decide_eq_false (fun hx => hx.elim (fun hx => hx.elim c2 c3) c4), if_neg (by simp)] at hrec
  refine Wc.mono (Q := fun x m' ds' h' => x = .normal ∧ ds' = rs.map .coll ++ [.fn 72 [] [.pointer (some ⟨bq, 0, none⟩)]] ∧ h' = h3 ∧ AllK m' [(1, .slice a l.length cap), (2, .slice (some ⟨b, o, oa⟩) late.length capl), (3, .pointer (some ⟨b1, 0, none⟩)), (6, i64 i), (7, .pointer (some ⟨bq, 0, none⟩)), (8, .pointer (some ⟨bD, 0, none⟩)), (10, .pointer (some ⟨bb, 0, none⟩)), (11, i64 i), (12, .pointer (some ⟨bx, 0, none⟩)), (27, .slice (some ⟨b, o, oa⟩) late.length capl), (28, i64 late.length), (29, i64 i)]) ?_ ?_
  · rcases hbef with ⟨rfl, rfl⟩ | ⟨hi0, hj, hbe⟩
    · refine Wc_draw hmix [0, 1, 0, 4, 12, 28, 63, 127, 255, 511, 1023, 2047, 4095, 8191, 16383, 32767, 65535, 131071, 262143, 524287, 1048575, 2097151, 4194303, 2097151, 2097151, 18874367, 60817407, 127926271, 262143999, 536870911, 1073741823, 2147483647, 4294967295] [0, 1, 2, 3, 4, 5] (some 6) [([7, 8, 9, 10, 11, 12, 13, 14, 15, 16, 17, 18, 19, 20, 21, 22, 23, 24, 25, 26, 27, 28, 29, 30, 31], (some 32)), ([], none)] (by kernel_rfl) (by kernel_rfl) ?_
      refine z_f ?_; refine z_l ?_; refine z_f ?_; refine z_l ?_; refine z_c ?_; refine z_u ?_
      refine Wp_eff [0, 1, 2, 3, 4, 5] (by kernel_rfl) rfl (Stl_nil rfl) rfl nb rfl (W1_callV rfl rfl rfl rfl rfl Bod.h (Sv_ff c2 (out_sv _ _ _ _)) ?_)
      refine z_n ?_; refine z_m ?_; refine g_f ?_; refine g_l ?_; refine g_v ?_; refine g_x ?_
      first | refine Wp_off rfl rfl rfl rfl ?_ | refine Wp_pure rfl rfl rfl rfl rfl (fun _ => A_indexArr (k := r) (z := max 0 (min (r : Int) 23)) Und.h Tsz.h rfl rfl (by omega) hr24) ?_
      first | refine Wp_off rfl rfl rfl rfl ?_ | refine Wp_pure rfl rfl rfl rfl rfl (fun _ => A_ff c3 (A_ld OneC.h rfl hcD)) ?_
      refine g_n ?_; refine z_p ?_; refine z_m ?_; refine g_m ?_
      first | refine Wp_off rfl rfl rfl rfl ?_ | refine Wp_pure rfl rfl rfl rfl rfl (fun _ => A_tt (by omega) (A_eql rfl rfl)) ?_
      refine g_m ?_; refine g_f ?_; refine g_l ?_; refine g_m ?_; refine g_m ?_; refine g_u ?_; refine g_i ?_; refine g_f ?_; refine g_l ?_; refine z_o ?_; refine g_p ?_; refine z_p ?_
      refine Wp_eff [0, 1, 2, 3, 4, 5, 6, 7, 8, 9, 10, 11, 12, 13, 14, 15, 16, 17, 18, 19, 20, 21, 22, 23, 24, 25, 26, 27, 28, 29, 30, 31] (by kernel_rfl) rfl (Stl_nil rfl) rfl nb rfl (W1_callM rfl rfl rfl rfl rfl Bod.h (must_sv true _ _) (fun _ => ?_) (fun hb => nomatch hb))
      refine Wp_end (Stl_nil rfl) nb' ?_
      exact ⟨rfl, rfl, rfl, rfl, rfl, rfl, rfl, rfl, rfl, rfl, rfl, rfl, rfl, rfl, rfl, trivial⟩
    obtain ⟨b', o', oa', _, _, e', _, hcp, _⟩ := (hL.ext hE1).at hj
    cases e'
    rw [← hbe] at hcp
    refine Wc_draw hmix [0, 1, 0, 4, 12, 28, 63, 127, 255, 511, 1023, 2047, 4095, 8191, 16383, 32767, 65535, 131071, 262143, 524287, 1048575, 2097151, 4194303, 2097151, 2097151, 18874367, 60817407, 127926271, 262143999, 536870911, 1073741823, 2147483647, 4294967295] [0, 1, 2, 3, 4, 5] (some 6) [([7, 8, 9, 10, 11, 12, 13, 14, 15, 16, 17, 18, 19, 20, 21, 22, 23, 24, 25, 26, 27, 28, 29, 30, 31], (some 32)), ([], none)] (by kernel_rfl) (by kernel_rfl) ?_
    refine z_f ?_; refine z_l ?_; refine z_f ?_; refine z_l ?_; refine z_c ?_; refine z_u ?_
    refine Wp_eff [0, 1, 2, 3, 4, 5] (by kernel_rfl) rfl (Stl_nil rfl) rfl nb rfl (W1_callV rfl rfl rfl rfl rfl Bod.h (Sv_ff c2 (out_sv _ _ _ _)) ?_)
    refine z_n ?_; refine z_m ?_; refine g_f ?_; refine g_l ?_; refine g_v ?_; refine g_x ?_
    first | refine Wp_off rfl rfl rfl rfl ?_ | refine Wp_pure rfl rfl rfl rfl rfl (fun _ => A_indexArr (k := r) (z := max 0 (min (r : Int) 23)) Und.h Tsz.h rfl rfl (by omega) hr24) ?_
    first | refine Wp_off rfl rfl rfl rfl ?_ | refine Wp_pure rfl rfl rfl rfl rfl (fun _ => A_ff c3 (A_ld OneC.h rfl hcD)) ?_
    refine g_n ?_; refine z_p ?_; refine z_m ?_; refine g_m ?_
    first | refine Wp_off rfl rfl rfl rfl ?_ | refine Wp_pure rfl rfl rfl rfl rfl (fun _ => A_ff (by omega) (A_eql rfl rfl)) ?_
    refine g_m ?_; refine g_f ?_; refine g_l ?_; refine g_m ?_; refine g_m ?_; refine g_u ?_
    first | refine Wp_off rfl rfl rfl rfl ?_ | refine Wp_pure rfl rfl rfl rfl rfl (fun _ => A_indexAddr (k := i - 1) (z := (i : Int) - 1) Und.h Tsz.h rfl rfl (by omega) hj) ?_
    refine g_f ?_; refine g_l ?_
    first | refine Wp_off rfl rfl rfl rfl ?_ | refine Wp_pure rfl rfl rfl rfl rfl (fun _ => A_tt (by omega) (A_gtr rfl rfl)) ?_
    refine g_p ?_; refine z_p ?_
    refine Wp_eff [0, 1, 2, 3, 4, 5, 6, 7, 8, 9, 10, 11, 12, 13, 14, 15, 16, 17, 18, 19, 20, 21, 22, 23, 24, 25, 26, 27, 28, 29, 30, 31] (by kernel_rfl) rfl (Stl_nil rfl) rfl nb rfl (W1_callM rfl rfl rfl rfl rfl Bod.h (must_sv true _ _) (fun _ => ?_) (fun hb => nomatch hb))
    refine Wp_end (Stl_nil rfl) nb' ?_
    exact ⟨rfl, rfl, rfl, rfl, rfl, rfl, rfl, rfl, rfl, rfl, rfl, rfl, rfl, rfl, rfl, trivial⟩
  clear hall hcD
  rintro x m' ds' h' ⟨rfl, rfl, rfl, hall⟩
  show Wc _ _ _ _ _ _ _
  refine Wc.le ?_ (Le.kn hall)
  refine zz ?_
  refine Wo_callV rfl rfl rfl rfl rfl Bod.h rfl rfl (mixed_sv hB.1 (by omega) (by omega) hbl) ?_
  cases hmx : mixedB t.reels.length (-1) by1
  rotate_left
  · refine zz ?_
    refine Wo_callM rfl rfl rfl rfl rfl Bod.h rfl rfl (must_sv false _ _) (fun hb => by cases hb) (fun _ => ?_)
    have hh : holdsB t (l.map Turn.reel) ⟨r, by1⟩ = false := by simp [holdsB, hmx]
    have hacc : acceptS t l late = ((i : Int), 143) := by rw [acceptS, if_neg (by omega), hrec, if_pos hh]
    rw [hacc]
    exact acc_pan hw hE1 hC hgq hqn rfl rfl
  obtain ⟨hin, _⟩ := mixed_false hmx (Int.le_refl _)
  have hl24 := pw_len hmx (by omega)
  refine zz ?_
  refine Wo_callM rfl rfl rfl rfl rfl Bod.h rfl rfl (must_sv true _ _) (fun _ => ?_) (fun hb => by cases hb)
  refine zz ?_
  have hbmn := hE1.2.1
  refine Wo_mkMap rfl rfl fun h4 hE4 hW4 hgm hn4 => ?_
  generalize hbmd : h'.nx = bm at *
  refine Wo_allocStore rfl rfl Zr.h Tsz.h rfl (fun _ => rfl) rfl rfl rfl fun h5 hE5 hW5 hg13 hn5 => ?_
  have hMp : SetIs t h5 bm [] [] := ⟨[], MapB.ext placeK (MapB.new _ hgm) hE5, List.nodup_nil, fun p => by simp [lkp]⟩
  replace hE5 := hE4.trans hE5
  clear hE4 hW4 hgm hn4
  generalize h4.nx = b13 at *
  replace hgx := hE5.get hgx
  replace hg1 := hE5.get hg1
  replace hgD := hE5.get hgD
  replace hgb := hE5.get hgb
  replace hgq := hE5.get hgq
  replace hC := hC.ext hE5
  replace hE1 := hE1.trans hE5
  replace hB := hB.ext hE5
  clear hE5 hn5 h4
  replace hbmn : h.nx ≤ bm := by omega
  refine zz ?_
  refine Wo_bs rfl rfl Und.h Tsz.h Zr.h rfl rfl rfl rfl rfl fun h6 hE6 hW6 hg6 hn6 => ?_
  have hgx6 := hE6.get hgx
  refine zz ?_
  refine Wo_appendF (by' := 8) (k := by1.length) (n := 1) (l := by1.map i64) hw (hE1.trans hE6) rfl rfl rfl rfl rfl Und.h inferInstance rfl rfl (FreshSl.lit (cs := [i64 r]) hg6 rfl (Nat.le_trans hE1.2.1 (Nat.le_refl _))) ((hB.ext hE6).src (dd := .slice 3) Und.h (by intro k; simp)) (by simp) (allOne_i64 by1) (by omega) (by omega) fun v7 h7 hF7 hE7 hK7 hn7 hb7 => ?_
  have hkeep : ∀ c o, h5.get c = some o → h7.get c = some o := fun c o hc => hK7 c o (by
    intro e
    simp only [blkOf, Option.some.injEq] at e
    have := hW5 c o hc; omega) (hE6.get hc)
  have hI : AccI h h7 t am ar cm cr l b1 bD bb bq rs := ⟨hE7, hkeep _ _ hg1, hkeep _ _ hgD, hkeep _ _ hgb, hkeep _ _ hgq, hC.keep fun r hr => hkeep _ _ hr⟩
  replace hgx := hkeep _ _ hgx
  replace hg13 := hkeep _ _ hg13
  replace hMp := hMp.some' fun o ho => hkeep _ o ho
  have hF : FreshSl h h7 v7 3 1 (((r : Int) :: by1).map i64) (((r : Int) :: by1).length) := by
    rw [show ((r : Int) :: by1).length = 1 + by1.length by simp; omega]
    exact hF7
  clear hgx6 hF7 hE7 hK7 hn7 hb7 hkeep hE6 hW6 hg6 hn6 hW5 hg1 hgD hgb hgq hC hB hE1 hbmd
  obtain ⟨a7, rfl, hx1, hx2⟩ := hF.srcAt
  clear hx1 hx2
  generalize hls : ((r : Int) :: by1) = ls at *
  have hlsl : ls.length = by1.length + 1 := by rw [← hls]; rfl
  have hls0 : ∀ k ∈ ls, 0 ≤ k ∧ k < t.reels.length := fun k hk => by
    rw [← hls] at hk
    rcases List.mem_cons.1 hk with e | g
    · omega
    · have := hin k g; omega
  refine zz ?_
  refine Wc_loop (fun (j : Nat) m ds h' => ∃ rs, ds = rs.map .coll ++ [.fn 72 [] [.pointer (some ⟨bq, 0, none⟩)]] ∧ AccI h h' t am ar cm cr l b1 bD bb bq rs ∧ h'.get bx = some (.cells [i64 r, .slice ab by1.length cb] 61 false) ∧ h'.get b13 = some (.cells [.map (some bm)] 112 false) ∧ FreshSl h h' (.slice a7 ls.length ls.length) 3 1 (ls.map i64) ls.length ∧ SetIs t h' bm (ls.take j) [] ∧ j ≤ ls.length ∧ (∀ i (hi : i < ls.length), i < j → 0 < i → byOk t (l.map Turn.reel) r ls[i] = true) ∧
      AllK m [(1, .slice a l.length cap), (2, .slice (some ⟨b, o, oa⟩) late.length capl), (3, .pointer (some ⟨b1, 0, none⟩)), (6, i64 i), (7, .pointer (some ⟨bq, 0, none⟩)), (8, .pointer (some ⟨bD, 0, none⟩)), (10, .pointer (some ⟨bb, 0, none⟩)), (11, i64 i), (12, .pointer (some ⟨bx, 0, none⟩)), (13, .pointer (some ⟨b13, 0, none⟩)), (27, .slice (some ⟨b, o, oa⟩) late.length capl), (28, i64 late.length), (29, i64 i), (82, .slice a7 ls.length ls.length), (83, i64 ls.length), (84, i64 j)]) (fun j => ls.length - j) 0 ?_ ?_
  · exact ⟨rs, rfl, hI, hgx, hg13, hF, hMp, Nat.zero_le _, (fun _ _ h1 => by omega), rfl, rfl, rfl, rfl, rfl, rfl, rfl, rfl, rfl, rfl, rfl, rfl, rfl, rfl, rfl, rfl, trivial⟩
  clear hI hgx hg13 hF hMp hall
  rintro j m ds h1 ⟨rs, rfl, hI, hgx, hg13, hF, hMp, hj, hok, hall⟩
  refine Wc_wf fun hw1 => ?_
  have hI0 := hI
  obtain ⟨hE1, hg1, hgD, hgb, hgq, hC⟩ := hI
  refine Wc.le ?_ (Le.kn hall)
  refine zz ?_
  refine Wo_dec rfl rfl rfl rfl (A_lss rfl rfl) (fun hjp => ?_) (fun hjp => ?_)
  rotate_left
  · have hj2 : j = ls.length := by omega
    subst hj2
    rw [List.take_length] at hMp
    obtain ⟨lu, hm, hcnt⟩ := hMp.count hV hls0
    have hcg : countS t ls = countS t (by1 ++ [(r : Int)]) := countS_congr fun k => by rw [← hls]; simp [or_comm]
    have hall0 : by1.all (byOk t (l.map Turn.reel) r) = true := by
      rw [List.all_eq_true]
      intro y hy
      obtain ⟨i', hi', rfl⟩ := List.getElem_of_mem hy
      have := hok (i' + 1) (by omega) (by omega) (by omega)
      subst hls
      simpa using this
    refine zz ?_
    refine Wo_do rfl rfl rfl rfl (A_lenMap placeK rfl rfl rfl Und.h rfl hm) ?_
    refine zz ?_
    by_cases c8 : (lu.length : Int) ≤ by1.length
    rotate_left
    · refine Wo_do rfl rfl rfl rfl (A_ff c8 (A_leq rfl rfl)) ?_
      refine zz ?_
      refine Wo_callM rfl rfl rfl rfl rfl Bod.h rfl rfl (must_sv false _ _) (fun hb => by cases hb) (fun _ => ?_)
      have hh : holdsB t (l.map Turn.reel) ⟨r, by1⟩ = false := by
        unfold holdsB
        rw [decide_eq_false (show ¬ countS t (by1 ++ [(r : Int)]) ≤ by1.length by rw [← hcg, ← hcnt]; exact c8)]
        simp
      have hacc : acceptS t l late = ((i : Int), 143) := by rw [acceptS, if_neg (by omega), hrec, if_pos hh]
      rw [hacc]
      exact acc_pan hw hE1 hC hgq hqn rfl rfl
    refine Wo_do rfl rfl rfl rfl (A_tt c8 (A_leq rfl rfl)) ?_
    refine zz ?_
    refine Wo_callM rfl rfl rfl rfl rfl Bod.h rfl rfl (must_sv true _ _) (fun _ => ?_) (fun hb => by cases hb)
    refine zz ?_
    have hh : ¬ holdsB t (l.map Turn.reel) ⟨r, by1⟩ = false := by
      unfold holdsB
      simp only
      rw [hmx, hall0, decide_eq_true (show countS t (by1 ++ [(r : Int)]) ≤ by1.length by rw [← hcg, ← hcnt]; exact c8)]
      simp
    rw [if_neg hh] at hrec
    refine ⟨(i + 1, (r : Int)), ?_, rs, rfl, hI0, hi', hrec, .inr ⟨by simp, by simp only [Nat.add_sub_cancel]; exact hi', by simp only [Nat.add_sub_cancel]; rw [hxe]⟩, ?_, rfl, rfl, rfl, rfl, rfl, rfl, rfl, rfl, rfl, trivial⟩
    · show late.length - (i + 1) < late.length - i; omega
    · simp only; omega
  have hj' : j < ls.length := by omega
  obtain ⟨a7', e7, _, hS7⟩ := hF.srcAt
  cases e7
  obtain ⟨b7, o7, oa7, rfl, hc7⟩ := hS7.1 j hj'
  obtain ⟨kk, hkk⟩ : ∃ n : Nat, ls[j] = n := ⟨ls[j].toNat, by have := hls0 _ (List.getElem_mem hj'); omega⟩
  have hkl : kk < t.reels.length := by have := hls0 _ (List.getElem_mem hj'); omega
  have hk24 : kk < 24 := by omega
  rw [hkk] at hc7
  have hcD : cellAt h1 bD (0 + kk * 1) = some (.bool (decide ((kk : Int) ∈ l.map Turn.reel))) := cellAt_cells hgD (by rw [show 0 + kk * 1 = kk by omega]; exact doneL_get hk24)
  obtain ⟨bR, oR, oaR, aR, cR, rfl, _, _, hrisk1⟩ := reelRow hR hrl
  obtain ⟨bR', oR', oaR', aR', cR', eR, _, _, hrisk2⟩ := reelRow hR hkl
  cases eR
  replace hrisk1 := hE1.cell hrisk1
  replace hrisk2 := hE1.cell hrisk2
  refine zz ?_
  refine Wo_do rfl rfl rfl rfl (A_ix Und.h Tsz.h rfl rfl) ?_
  refine zz ?_
  have hbad : ∀ (hj0 : 0 < j), byOk t (l.map Turn.reel) r kk = false → acceptS t l late = ((i : Int), 143) := fun hj0 hb => by
    have hall0 : by1.all (byOk t (l.map Turn.reel) r) = false := by
      rw [List.all_eq_false]
      refine ⟨by1[j - 1]'(by omega), List.getElem_mem _, ?_⟩
      have e : by1[j - 1]'(by omega) = (kk : Int) := by
        rw [← hkk]
        subst hls
        obtain ⟨j, rfl⟩ : ∃ i, j = i + 1 := ⟨j - 1, by omega⟩
        simp
      rw [e, hb]; simp
    have hh : holdsB t (l.map Turn.reel) ⟨r, by1⟩ = false := by simp [holdsB, hall0]
    rw [acceptS, if_neg (by omega), hrec, if_pos hh]
  by_cases c5 : 0 < j ∧ byOk t (l.map Turn.reel) r kk = false
  · obtain ⟨hj0, hb⟩ := c5
    rw [hbad hj0 hb]
    by_cases c6 : (kk : Int) ∈ l.map Turn.reel
    · have c7 : ¬ (reelAt t r).risk ≤ (reelAt t kk).risk := by
        intro hx
        rw [byOk, decide_eq_true c6, decide_eq_true hx] at hb
        cases hb
      refine Wc_draw hmix [0, 1, 3, 7, 15, 31, 63, 127, 255, 127, 1023, 2047, 4095, 127, 8319, 127, 32895, 123007, 254079, 516223, 1048575, 2097151, 4194303, 8388607] [0, 1, 2, 3, 4, 5, 6, 7, 8, 9, 10, 11, 12, 13, 14, 15, 16, 17, 18, 19, 20, 21, 22] (some 23) [([], none)] (by kernel_rfl) (by kernel_rfl) ?_
      refine z_m ?_; refine Wp_pure rfl rfl rfl rfl rfl (fun _ => A_ff (by omega) (A_eql rfl rfl)) ?_; refine z_m ?_; refine g_m ?_
      first | refine Wp_off rfl rfl rfl rfl ?_ | refine Wp_pure rfl rfl rfl rfl rfl (fun _ => A_indexArr (k := kk) (z := (kk : Int)) Und.h Tsz.h rfl rfl rfl hk24) ?_
      first | refine Wp_off rfl rfl rfl rfl ?_ | refine Wp_pure rfl rfl rfl rfl rfl (fun _ => A_tt c6 (A_ld OneC.h rfl hcD)) ?_
      refine g_m ?_; refine g_f ?_; refine g_l ?_; refine g_m ?_; refine g_i ?_; refine g_f ?_; refine g_l ?_; refine g_f ?_; refine g_l ?_; refine g_f ?_; refine g_l ?_; refine g_i ?_; refine g_f ?_; refine g_l ?_
      first | refine Wp_off rfl rfl rfl rfl ?_ | refine Wp_pure rfl rfl rfl rfl rfl (fun _ => A_ff c7 (A_geq rfl rfl)) ?_
      refine g_p ?_; refine z_p ?_
      refine Wp_eff [0, 1, 2, 3, 4, 5, 6, 7, 8, 9, 10, 11, 12, 13, 14, 15, 16, 17, 18, 19, 20, 21, 22] (by kernel_rfl) rfl (Stl_nil rfl) rfl nb rfl (W1_callM rfl rfl rfl rfl rfl Bod.h (must_sv false _ _) (fun hb => nomatch hb) (fun _ => ?_))
      exact acc_pan hw hE1 hC hgq hqn rfl rfl
    · refine Wc_draw hmix [0, 1, 3, 7, 15, 31, 63, 127, 255, 127, 1023, 2047, 4095, 127, 8319, 127, 32895, 123007, 254079, 516223, 1048575, 2097151, 4194303, 8388607] [0, 1, 2, 3, 4, 5, 6, 7, 8, 9, 10, 11, 12, 13, 14, 15, 16, 17, 18, 19, 20, 21, 22] (some 23) [([], none)] (by kernel_rfl) (by kernel_rfl) ?_
      refine z_m ?_; refine Wp_pure rfl rfl rfl rfl rfl (fun _ => A_ff (by omega) (A_eql rfl rfl)) ?_; refine z_m ?_; refine g_m ?_
      first | refine Wp_off rfl rfl rfl rfl ?_ | refine Wp_pure rfl rfl rfl rfl rfl (fun _ => A_indexArr (k := kk) (z := (kk : Int)) Und.h Tsz.h rfl rfl rfl hk24) ?_
      first | refine Wp_off rfl rfl rfl rfl ?_ | refine Wp_pure rfl rfl rfl rfl rfl (fun _ => A_ff c6 (A_ld OneC.h rfl hcD)) ?_
      refine g_m ?_; refine g_f ?_; refine g_l ?_; refine g_m ?_; refine g_i ?_; refine g_f ?_; refine g_l ?_; refine g_f ?_; refine g_l ?_; refine g_f ?_; refine g_l ?_; refine g_i ?_; refine g_f ?_; refine g_l ?_; refine z_o ?_; refine g_p ?_; refine z_p ?_
      refine Wp_eff [0, 1, 2, 3, 4, 5, 6, 7, 8, 9, 10, 11, 12, 13, 14, 15, 16, 17, 18, 19, 20, 21, 22] (by kernel_rfl) rfl (Stl_nil rfl) rfl nb rfl (W1_callM rfl rfl rfl rfl rfl Bod.h (must_sv false _ _) (fun hb => nomatch hb) (fun _ => ?_))
      exact acc_pan hw hE1 hC hgq hqn rfl rfl
  refine Wc.mono (Q := fun x m' ds' h' => x = .normal ∧ ds' = rs.map .coll ++ [.fn 72 [] [.pointer (some ⟨bq, 0, none⟩)]] ∧ h' = h1 ∧ AllK m' [(1, .slice a l.length cap), (2, .slice (some ⟨b, o, oa⟩) late.length capl), (3, .pointer (some ⟨b1, 0, none⟩)), (6, i64 i), (7, .pointer (some ⟨bq, 0, none⟩)), (8, .pointer (some ⟨bD, 0, none⟩)), (10, .pointer (some ⟨bb, 0, none⟩)), (11, i64 i), (12, .pointer (some ⟨bx, 0, none⟩)), (13, .pointer (some ⟨b13, 0, none⟩)), (15, i64 kk), (27, .slice (some ⟨b, o, oa⟩) late.length capl), (28, i64 late.length), (29, i64 i), (82, .slice (some ⟨b7, o7, oa7⟩) ls.length ls.length), (83, i64 ls.length), (84, i64 j)]) ?_ ?_
  · rcases Nat.eq_zero_or_pos j with hj0 | hj0
    · refine Wc_draw hmix [0, 1, 3, 7, 15, 31, 63, 127, 255, 127, 1023, 2047, 4095, 127, 8319, 127, 32895, 123007, 254079, 516223, 1048575, 2097151, 4194303, 8388607] [0, 1, 2, 3, 4, 5, 6, 7, 8, 9, 10, 11, 12, 13, 14, 15, 16, 17, 18, 19, 20, 21, 22] (some 23) [([], none)] (by kernel_rfl) (by kernel_rfl) ?_
      refine z_m ?_; refine Wp_pure rfl rfl rfl rfl rfl (fun _ => A_tt (by omega) (A_eql rfl rfl)) ?_; refine z_m ?_; refine g_m ?_; refine g_i ?_; refine g_l ?_; refine g_m ?_; refine g_f ?_; refine g_l ?_; refine g_m ?_; refine g_i ?_; refine g_f ?_; refine g_l ?_; refine g_f ?_; refine g_l ?_; refine g_f ?_; refine g_l ?_; refine g_i ?_; refine g_f ?_; refine g_l ?_; refine z_o ?_; refine g_p ?_; refine z_p ?_
      refine Wp_eff [0, 1, 2, 3, 4, 5, 6, 7, 8, 9, 10, 11, 12, 13, 14, 15, 16, 17, 18, 19, 20, 21, 22] (by kernel_rfl) rfl (Stl_nil rfl) rfl nb rfl (W1_callM rfl rfl rfl rfl rfl Bod.h (must_sv true _ _) (fun _ => ?_) (fun hb => nomatch hb))
      refine Wp_end (Stl_nil rfl) nb' ?_
      exact ⟨rfl, rfl, rfl, rfl, rfl, rfl, rfl, rfl, rfl, rfl, rfl, rfl, rfl, rfl, rfl, rfl, rfl, rfl, rfl, rfl, trivial⟩
    have hb : byOk t (l.map Turn.reel) r kk = true := by
      cases hq : byOk t (l.map Turn.reel) r kk with
      | true => rfl
      | false => exact absurd ⟨hj0, hq⟩ c5
    rw [byOk, Bool.and_eq_true] at hb
    have c6 := of_decide_eq_true hb.1
    have c7 := of_decide_eq_true hb.2
    refine Wc_draw hmix [0, 1, 3, 7, 15, 31, 63, 127, 255, 127, 1023, 2047, 4095, 127, 8319, 127, 32895, 123007, 254079, 516223, 1048575, 2097151, 4194303, 8388607] [0, 1, 2, 3, 4, 5, 6, 7, 8, 9, 10, 11, 12, 13, 14, 15, 16, 17, 18, 19, 20, 21, 22] (some 23) [([], none)] (by kernel_rfl) (by kernel_rfl) ?_
    refine z_m ?_; refine Wp_pure rfl rfl rfl rfl rfl (fun _ => A_ff (by omega) (A_eql rfl rfl)) ?_; refine z_m ?_; refine g_m ?_
    first | refine Wp_off rfl rfl rfl rfl ?_ | refine Wp_pure rfl rfl rfl rfl rfl (fun _ => A_indexArr (k := kk) (z := (kk : Int)) Und.h Tsz.h rfl rfl rfl hk24) ?_
    first | refine Wp_off rfl rfl rfl rfl ?_ | refine Wp_pure rfl rfl rfl rfl rfl (fun _ => A_tt c6 (A_ld OneC.h rfl hcD)) ?_
    refine g_m ?_; refine g_f ?_; refine g_l ?_; refine g_m ?_; refine g_i ?_; refine g_f ?_; refine g_l ?_; refine g_f ?_; refine g_l ?_; refine g_f ?_; refine g_l ?_; refine g_i ?_; refine g_f ?_; refine g_l ?_
    first | refine Wp_off rfl rfl rfl rfl ?_ | refine Wp_pure rfl rfl rfl rfl rfl (fun _ => A_tt c7 (A_geq rfl rfl)) ?_
    refine g_p ?_; refine z_p ?_
    refine Wp_eff [0, 1, 2, 3, 4, 5, 6, 7, 8, 9, 10, 11, 12, 13, 14, 15, 16, 17, 18, 19, 20, 21, 22] (by kernel_rfl) rfl (Stl_nil rfl) rfl nb rfl (W1_callM rfl rfl rfl rfl rfl Bod.h (must_sv true _ _) (fun _ => ?_) (fun hb => nomatch hb))
    refine Wp_end (Stl_nil rfl) nb' ?_
    exact ⟨rfl, rfl, rfl, rfl, rfl, rfl, rfl, rfl, rfl, rfl, rfl, rfl, rfl, rfl, rfl, rfl, rfl, rfl, rfl, rfl, trivial⟩
  clear hall hbad hcD hrisk1 hrisk2
  rintro x m' ds' h' ⟨rfl, rfl, rfl, hall⟩
  show Wc _ _ _ _ _ _ _
  refine Wc.le ?_ (Le.kn hall)
  refine zz ?_
  refine Wo_callr rfl rfl rfl rfl rfl Bod.h rfl rfl (places_sv) ?_
  rintro v h2 ⟨p1, p2, rfl, hE2, gp1, gp2, _, _, _, _⟩
  replace hgx := hE2.get hgx
  replace hg13 := hE2.get hg13
  replace hF := hF.ext hE2
  replace hMp := hMp.ext hE2
  have hI1 := hI0.grow hE2
  clear hI0 hE1 hg1 hgD hgb hgq hC hE2 hw1 hS7 hc7
  obtain ⟨hE1, hg1, hgD, hgb, hgq, hC⟩ := hI1
  refine Wo_wf fun hw2 => ?_
  refine zz ?_
  refine Wc_rangeL rfl rfl Bod.h (fun e hs hL hEL hWL hnL hLr hLl => ?_)
  have hbml := hMp.lt hw2
  have hbm2 : bm ≠ h2.nx + 1 := by omega
  let S : Nat → Prop := fun b => b = bm ∨ b = h2.nx + 1
  have hSn : ∀ {b vs el op}, h2.get b = some (.cells vs el op) → ¬ S b := fun {b vs el op} hg hs => by
    rcases hs with e | e
    · exact hMp.ne hg e
    · have := hw2 _ _ hg; omega
  have hSh : ∀ b, S b → h.nx ≤ b := fun b hb => by
    have := hE1.2.1
    rcases hb with e | e <;> omega
  let J : List Pl → Heap → Prop := fun pre h' => Exb S hL h' ∧ h'.get (h2.nx + 1) = hL.get (h2.nx + 1) ∧ SetIs t h' bm (ls.take j) pre
  have hCK : ∀ {h'}, Exb S hL h' → CK h2 h' := fun {h'} hX b vs el op hg => hX.get (hSn hg) (hEL.get hg)
  refine (iter_sv (h0 := h) (l := h2.nx + 1) (cm := cm) (cr := cr) (mp := .map none) (bb := bb) hM hR hf hV hkl J (fun _ => False) S (fun b hb => by rcases hb with e | e <;> omega) ⟨Exb.refl _ _, rfl, hMp.ext hEL⟩ (fun pre h' hJ => ?_) (fun pre h3 h4 hJ he => ⟨hJ.1.trans (Exb.of he), (he.get (hJ.2.1.trans hLl)).trans hLl.symm, hJ.2.2.ext he⟩) (fun pre p post h3 hsp hJ => ?_)).ret ?_
  · exact ⟨hJ.1.ext (hE1.trans hEL) hw hSh, hCK hJ.1 _ _ _ _ gp1, hCK hJ.1 _ _ _ _ gp2, hCK hJ.1 _ _ _ _ hgb⟩
  · obtain ⟨hX, hl3, hM3⟩ := hJ
    have hg133 := hCK hX _ _ _ _ hg13
    refine Yd_intro (hl3.trans hLl) hs rfl rfl ?_
    refine Wc_wf fun hw3 => ?_
    refine Wc_region ?_
    refine Wo_allocStore rfl rfl Zr.h Tsz.h rfl (fun _ => rfl) rfl rfl rfl fun h4 hE4 hW4 hg16 hn4 => ?_
    have hl4 := hE4.get (hl3.trans hLl)
    refine Wo_nil ⟨rfl, rfl, _, _, _, _, _, _, _, _, hl4, ?_⟩
    have hg134 := hE4.get hg133
    have hM4 := hM3.ext hE4
    have hXl : Exb S hL h4 := hX.trans (Exb.of hE4)
    generalize hAO : AO.loop LoopState.busy _ _ _ _ _ _ _ _ = bo
    have hU5 := Upd.mk' h4 (h2.nx + 1) bo
    generalize h4.set (h2.nx + 1) bo = h5 at *
    have hl5 := hU5.at'
    have hgl4 : ∀ {b vs el op}, h4.get b = some (.cells vs el op) → b ≠ h2.nx + 1 := fun {b vs el op} hg e => by rw [e, hl4] at hg; cases hg
    have hg135 := hU5.get (hgl4 hg134) hg134
    have hg165 := hU5.get (hgl4 hg16) hg16
    obtain ⟨lu, hm5, ho5, hk5⟩ := hM4.some' fun o ho => (hU5.other bm hbm2).trans ho
    refine Wc_block ?_
    refine zz ?_
    refine Wo_mapUpdateB placeK (k := p) rfl Und.h rfl hm5 rfl rfl fun h6 o6 hU6 hm6 => ?_
    refine Wo_nil ?_
    have hl6 := hU6.get (Ne.symm hbm2) hl5
    subst hAO
    refine ⟨none, .busy, none, 30, 140, e, _, _, _, _, rfl, hl6, .inl ⟨rfl, ⟨((hXl.upd hU5 (.inr rfl)).upd hU6 (.inl rfl)).set _ (.inr rfl), (Heap.get_set_self _ _ _).trans hLl.symm, ⟨_, MapB.get placeK hm6 (Heap.get_set_other _ hbm2), ho5.set, fun q => ?_⟩⟩, (((Exb.of hE4).upd hU5 (.inr rfl)).upd hU6 (.inl rfl)).set _ (.inr rfl)⟩⟩
    rw [lkp_setK, hk5]
    by_cases e : q = p
    · rw [if_pos e, if_pos (.inr (by rw [e]; simp))]
    · rw [if_neg e]
      congr 1
      simp only [List.mem_append, List.mem_singleton, e, or_false]
  · rintro v h' (⟨hX, hl', hM'⟩ | hF')
    rotate_left
    · exact hF'.elim
    refine ⟨.ready, none, 30, 140, e, _, _, _, _, hl'.trans hLl, by simp, fun _ => ?_, fun c hc => nomatch hc⟩
    generalize hAO : AO.loop LoopState.exhausted _ _ _ _ _ _ _ _ = bo
    have hU7 := Upd.mk' h' (h2.nx + 1) bo
    generalize h'.set (h2.nx + 1) bo = h7 at *
    have hl8 := hl'.trans hLl
    have hgl7 : ∀ {b vs el op}, h'.get b = some (.cells vs el op) → b ≠ h2.nx + 1 := fun {b vs el op} hg e => by rw [e, hl8] at hg; cases hg
    have hCK7 : CK h2 h7 := fun b vs el op hg => hU7.get (hgl7 (hCK hX _ _ _ _ hg)) (hCK hX _ _ _ _ hg)
    have hE7 : Ext h h7 := hU7.ext (hX.ext (hE1.trans hEL) hw hSh) hw (hSh _ (.inr rfl))
    have hdk : ∀ r, hL.get r = some .defd → h7.get r = some .defd := fun r hr => by
      have hr1 : r ≠ h2.nx + 1 := fun e => by rw [e, hLl] at hr; cases hr
      have hr2 : r ≠ bm := fun e => (hMp.ext hEL).ndefd (by rw [← e]; exact hr)
      exact hU7.get hr1 (hX.get (fun hs => hs.elim hr2 hr1) hr)
    have hC7 : Colls h h7 (h2.nx :: rs) := (hC.keep fun r hr => hdk r (hEL.get hr)).cons (hdk _ hLr) hE1.2.1 (fun hm => by have := hw2 _ _ (hC.defd _ hm); omega)
    have hI7 : AccI h h7 t am (some ⟨bR, oR, oaR⟩) cm cr l b1 bD bb bq (h2.nx :: rs) := ⟨hE7, hCK7 _ _ _ _ hg1, hCK7 _ _ _ _ hgD, hCK7 _ _ _ _ hgb, hCK7 _ _ _ _ hgq, hC7⟩
    have hM7 : SetIs t h7 bm (ls.take (j + 1)) [] := by
      rw [take_succ hj', hkk]
      exact hM'.done.some' fun o ho => (hU7.other bm hbm2).trans ho
    show Wc _ _ _ _ _ _ _
    refine zz ?_
    refine ⟨j + 1, ?_, h2.nx :: rs, rfl, hI7, hCK7 _ _ _ _ hgx, hCK7 _ _ _ _ hg13, hF.ck hCK7, hM7, hj', ?_, rfl, rfl, rfl, rfl, rfl, rfl, rfl, rfl, rfl, rfl, rfl, rfl, rfl, rfl, rfl, rfl, trivial⟩
    · show ls.length - (j + 1) < ls.length - j; omega
    · intro i' hi' hlt h0
      rcases Nat.lt_or_ge i' j with g | g
      · exact hok i' hi' g h0
      · have : i' = j := by omega
        subst this
        rw [hkk]
        cases hq : byOk t (l.map Turn.reel) r kk with
        | true => rfl
        | false => exact absurd ⟨h0, hq⟩ c5
end Go.Dw
/- P5: the contract of Accept of telecineref04. -/
namespace Go.Dw
open Go Go.Dx Go.Proofs
set_option maxRecDepth 100000
end Go.Dw
