/- Y1: contracts: the library's sorting of numbers. -/
import Derived.Test.YtcjmpdpgfmjcgaaGreatDoorHG19
import Derived.Test.YtcjmpdpgfmjcgaaGreatDoorHG2
import Derived.Test.YtcjmpdpgfmjcgaaGreatDoorHG17
namespace Go.Dw
open Go Go.Dx Go.Proofs Go.Sort
set_option maxRecDepth 100000
section
variable {α : Type} [Inhabited α] {enc : α -> Value} {w : World} {blk n : Nat} {os : Array Obj} {c : Array Value} {el : TypeId} {d : Array α}
theorem sortedW (hb : w.heap[blk]? = some (.cells c el (0, 0))) : w.heap.size <= (grow (putRow enc (Sort.ahead w n) blk 0 d) os).heap.size /\ ∀ k, k < w.heap.size -> (grow (putRow enc (Sort.ahead w n) blk 0 d) os).heap[k]? = (w.heap.setIfInBounds blk (.cells (putCells enc 0 d c) el (0, 0)))[k]? := by
  refine ⟨by simp, fun k hk => ?_⟩
  rw [heap_grow_old _ _ (by simpa using hk)]
  obtain ⟨h1, h2⟩ := Array.getElem?_eq_some_iff.1 hb
  rw [Array.getElem?_setIfInBounds]
  by_cases e : blk = k
  · subst e
    rw [if_pos rfl, if_pos hk]
    simp [putRow, mapBlock, Sort.ahead, Array.getElem?_modify, onCells, hb]
  · rw [if_neg e]
    simp [putRow, mapBlock, Sort.ahead, Array.getElem?_modify, e]
theorem putCells_size : (putCells enc 0 d c).size = c.size := by simp [putCells]
theorem take_putCells (h : d.size <= c.size) : (putCells enc 0 d c).toList.take d.size = d.toList.map enc := by
  apply List.ext_getElem?
  intro j
  by_cases hj : j < d.size
  · rw [List.getElem?_take_of_lt hj, Array.getElem?_toList]
    simp [putCells, hj, show j < c.size by omega, getElem!_pos d j hj]
  · rw [List.getElem?_take_eq_none (by omega), List.getElem?_eq_none (by simp; omega)]
theorem holds_of (hb : w.heap[blk]? = some (.cells c el (0, 0))) (ht : c.toList.take d.size = d.toList.map enc) : Holds enc w blk 0 d := by
  intro j hj
  refine ⟨?_, by simp [World.frozen?, hb]⟩
  have h1 : (c.toList.take d.size)[j]? = (d.toList.map enc)[j]? := by rw [ht]
  rw [List.getElem?_take_of_lt hj] at h1
  simp only [World.cell?, hb, Nat.zero_add]
  simp only [Option.isSome_none, Bool.false_eq_true, if_false]
  rw [<- Array.getElem?_toList, h1]
  simp [hj, getElem!_pos d j hj]
end
theorem flatL_i64 : ∀ l : List Int, flatL (l.map i64) = true
  | [] => rfl
  | _ :: l => flatL_i64 l
theorem sortInts_sv {h0 h : Heap} {v : Value} {zs : List Int} {n : Nat} (hF : FreshSl h0 h v 3 1 (zs.map i64) n) (hn : n < 1000000) :
    Sv Tryz.prog 103 [v] h (RetP fun r h' => r = .tuple ⟨[]⟩ /\ FreshSl h0 h' v 3 1 ((sortI zs).map i64) n /\ Exb (fun c => blkOf v = some c) h h') := by
  refine ⟨fun ι w args' hr hv => ?_⟩
  obtain ⟨l', rfl, hv⟩ := hv.arr
  cases hv with
  | cons hv1 hv2 =>
    cases hv2
    rcases hF.lies hr hv1 (by decide) with ⟨rfl, rfl, hz, rfl⟩ | ⟨b, bi, op, cap, c, hb, hg, hi, rfl, hc, hle, hV, hl, hnew⟩
    · have : zs = [] := List.map_eq_nil_iff.1 hz
      subst this
      refine (AnyM.slices_Sort_int_none laySort none 0 w).mono ?_
      rintro e w' ⟨rfl, rfl⟩
      exact ⟨.ret (.tuple ⟨[]⟩) h, ⟨rfl, by rw [show sortI [] = [] from List.mergeSort_nil]; exact FreshSl.nil _ _ _ _, Exb.refl _ _⟩, PostV_unch hr (VR.of_flat ι rfl) ⟨Nat.le_refl _, fun _ _ => rfl, rfl, rfl⟩⟩
    · have hlz : zs.length = n := by rw [List.length_map] at hl; omega
      have hcz := hV.flat_eq (flatL_i64 zs)
      rw [List.length_map] at hcz hle
      have hH : Holds (Value.int .i64) w bi.blk 0 zs.toArray := holds_of (enc := i64) hc (by simpa using hcz)
      obtain ⟨hbs, -⟩ := Array.getElem?_eq_some_iff.1 hc
      have hK := AnyM.slices_Sort_int laySort bi.blk 0 cap zs w hH hbs (by omega)
      rw [hlz] at hK
      refine hK.mono ?_
      rintro e w' ⟨rfl, k, os, rfl⟩
      have hsl : (sortI zs).length = zs.length := sortI_len zs
      have hts : (sortI zs).toArray.size <= c.size := by simp [hsl]; omega
      have hP := PostV_row (h := h) (vs2 := (sortI zs).map i64) (c2 := putCells i64 0 (sortI zs).toArray c) (r := .tuple ⟨[]⟩) (r' := .tuple ⟨[]⟩) hr hg hi hc putCells_size (by simp [hsl]) (by
        have := take_putCells (enc := i64) hts
        rw [List.length_map]
        simp only [List.size_toArray] at this
        rw [this]
        exact VRL.of_flat ι (flatL_i64 _)) (VR.of_flat ι rfl) (sortedW (n := k) (os := os) hc).1 (sortedW hc).2 rfl rfl
      refine ⟨.ret (.tuple ⟨[]⟩) (h.set b (.cells ((sortI zs).map i64) 3 op)), ⟨rfl, hnew _ _ op (by simp [hsl]) (Upd.mk' h b _).at', ?_⟩, hP⟩
      refine (Exb.ofUpd (Upd.mk' h b _)).mono fun x hx => by rw [hx]; exact hb
end Go.Dw
/- Y2: contracts: the library's sorting of late reels. -/
namespace Go.Dw
open Go Go.Dx Go.Proofs Go.Sort Go.RowKit Go.Lib
set_option maxRecDepth 100000
def LateE : Type := { p : Int × Value // 0 <= p.1 /\ p.1 < 1000000 /\ p.2.oneCell' = true }
instance : Inhabited LateE := ⟨⟨(0, .int .i64 0), by decide, by decide, rfl⟩⟩
def encL (x : LateE) : List Value := [i64 x.1.1, x.1.2]
def cfL (x y : LateE) : Int := x.1.1 - y.1.1
theorem encL_len (x : LateE) : (encL x).length = 2 := rfl
theorem cfL_swo : SWO (ltOf cfL) := by
  refine ⟨fun x => ?_, fun x y z h1 h2 => ?_, fun x y z h1 h2 => ?_⟩
  · exact decide_eq_false (by unfold cfL; omega)
  · have k1 : x.1.1 - y.1.1 < 0 := of_decide_eq_true h1
    have k2 : y.1.1 - z.1.1 < 0 := of_decide_eq_true h2
    exact decide_eq_true (show x.1.1 - z.1.1 < 0 by omega)
  · have k1 : ¬ x.1.1 - y.1.1 < 0 := of_decide_eq_false h1
    have k2 : ¬ y.1.1 - z.1.1 < 0 := of_decide_eq_false h2
    exact decide_eq_false (show ¬ x.1.1 - z.1.1 < 0 by omega)
theorem flatK_list (d : Array LateE) : (flatK encL 2 d).toList = d.toList.flatMap encL := by
  have hlen : ∀ l : List LateE, (l.flatMap encL).length = l.length * 2 := by
    intro l
    induction l with
    | nil => rfl
    | cons x l ih => rw [List.flatMap_cons, List.length_append, ih, encL_len, List.length_cons]; omega
  apply List.ext_getElem?
  intro t
  by_cases ht : t < d.size * 2
  · have hi : t / 2 < d.toList.length := by rw [Array.length_toList]; omega
    have h1 := cut_flat (f := encL) (k := 2) (P := d.toList) hi fun _ _ => rfl
    rw [cut_le (by rw [hlen, Array.length_toList]; omega)] at h1
    have h2 : ((List.drop (t / 2 * 2) (d.toList.flatMap encL)).take 2)[t % 2]? = (encL d.toList[t / 2])[t % 2]? := congrArg (fun l : List Value => l[t % 2]?) (Option.some.inj h1)
    rw [List.getElem?_take_of_lt (by omega), List.getElem?_drop, show t / 2 * 2 + t % 2 = t by omega] at h2
    rw [h2, Array.getElem?_toList, Array.getElem?_eq_getElem (by simpa using ht)]
    have h3 := get_flatK encL 2 d t ht
    rw [getElem!_pos _ t (by simpa using ht)] at h3
    rw [h3, getElem!_pos d (t / 2) (by omega), Array.getElem_toList, List.getElem?_eq_getElem (by rw [encL_len]; omega), getElem!_pos _ _ (by rw [encL_len]; omega)]
  · rw [List.getElem?_eq_none (by simp; omega), List.getElem?_eq_none (by rw [hlen, Array.length_toList]; omega)]
set_option maxHeartbeats 1000000 in
theorem byReel' (a b : Int) (u v : Value) (hw : IntKind.i64.wrap (a - b) = a - b) (W : World) : Calls Tryz.prog 105 #[.agg #[.int .i64 a, u], .agg #[.int .i64 b, v]] W fun e w' => e = .returned (.int .i64 (a - b)) /\ ∃ q os', w' = grow (W.drewN q) os' := by
  go_enter Tryz.func105, Tryz.ntmps105
  go_wp2
  go_ret
  exact ⟨rfl, 0, _, by rw [alloc_eq_grow, alloc_eq_grow, grow_grow]; rfl⟩
theorem byReel (x y : LateE) (W : World) : Calls Tryz.prog 105 #[.agg (encL x).toArray, .agg (encL y).toArray] W fun e w' => e = .returned (.int .i64 (cfL x y)) /\ ∃ q os', w' = grow (W.drewN q) os' :=
  byReel' x.1.1 y.1.1 x.1.2 y.1.2 (IntWalk.i64_in _ (by have := x.2; have := y.2; omega)) W
theorem perm_lift {α β : Type} (f : α -> β) : ∀ {Z : List α} {l : List β}, l.Perm (Z.map f) -> ∃ Z' : List α, Z'.Perm Z /\ l = Z'.map f
  | [], l, h => ⟨[], .refl _, List.perm_nil.1 h⟩
  | z :: Z, l, h => by
    obtain ⟨A, B, rfl⟩ := List.append_of_mem (h.symm.subset (List.mem_cons_self (a := f z) (l := Z.map f)))
    have h2 : (A ++ B).Perm (Z.map f) := (List.perm_cons (f z)).1 (List.perm_middle.symm.trans h)
    obtain ⟨Z', hp, he⟩ := perm_lift f h2
    have e1 : (Z'.take A.length).map f = A := by rw [<- List.map_take.symm, <- he]; exact List.take_left
    have e2 : (Z'.drop A.length).map f = B := by rw [<- List.map_drop.symm, <- he]; exact List.drop_left
    refine ⟨Z'.take A.length ++ z :: Z'.drop A.length, List.perm_middle.trans (.cons z (by rw [List.take_append_drop]; exact hp)), ?_⟩
    rw [List.map_append, List.map_cons, e1, e2]
theorem rows_of {ι : Iota} : ∀ {P : List (Lat × Value)} {l : List Value}, VRL ι (P.flatMap latRow) l -> (∀ p ∈ P, 0 <= p.1.reel /\ p.1.reel < 1000000) -> (∀ v ∈ l, v.oneCell' = true) -> ∃ Z : List ((Lat × Value) × LateE), Z.map Prod.fst = P /\ (Z.map Prod.snd).flatMap encL = l /\ ∀ z ∈ Z, z.2.1.1 = z.1.1.reel /\ VR ι z.1.2 z.2.1.2
  | [], l, h, _, _ => by
    cases h
    exact ⟨[], rfl, rfl, fun z hz => (List.not_mem_nil hz).elim⟩
  | p :: P, l, h, hr, h1 => by
    rw [List.flatMap_cons] at h
    have h : VRL ι (i64 p.1.reel :: p.2 :: P.flatMap latRow) l := h
    cases h with
    | cons a1 a2 =>
      cases a2 with
      | cons b1 b2 =>
        cases a1
        rename_i v' l'
        obtain ⟨Z, e1, e2, e3⟩ := rows_of b2 (fun q hq => hr q (List.mem_cons_of_mem _ hq)) fun v hv => h1 v (List.mem_cons_of_mem _ (List.mem_cons_of_mem _ hv))
        have hp := hr p List.mem_cons_self
        refine ⟨(p, ⟨(p.1.reel, v'), hp.1, hp.2, h1 v' (List.mem_cons_of_mem _ List.mem_cons_self)⟩) :: Z, by rw [List.map_cons, e1], ?_, fun z hz => ?_⟩
        · rw [List.map_cons, List.flatMap_cons, e2]; rfl
        · rcases List.mem_cons.1 hz with rfl | hz
          · exact ⟨rfl, b1⟩
          · exact e3 z hz
theorem rows_back {ι : Iota} : ∀ {Z : List ((Lat × Value) × LateE)}, (∀ z ∈ Z, z.2.1.1 = z.1.1.reel /\ VR ι z.1.2 z.2.1.2) -> VRL ι ((Z.map Prod.fst).flatMap latRow) ((Z.map Prod.snd).flatMap encL)
  | [], _ => .nil
  | z :: Z, h => by
    have hz := h z List.mem_cons_self
    rw [List.map_cons, List.map_cons, List.flatMap_cons, List.flatMap_cons]
    refine .cons ?_ (.cons hz.2 (rows_back fun y hy => h y (List.mem_cons_of_mem _ hy)))
    rw [hz.1]
    exact .int _ _
theorem latRows_len (P : List (Lat × Value)) : (P.flatMap latRow).length = P.length * 2 := by
  induction P with
  | nil => rfl
  | cons x l ih => rw [List.flatMap_cons, List.length_append, ih, List.length_cons]; show 2 + _ = _; omega
theorem latRows_one : ∀ {P : List (Lat × Value)}, (∀ p ∈ P, allOne [p.2] = true) -> allOne (P.flatMap latRow) = true
  | [], _ => rfl
  | p :: P, h => by
    have h1 := h p List.mem_cons_self
    have h2 := latRows_one fun q hq => h q (List.mem_cons_of_mem _ hq)
    rw [List.flatMap_cons]
    simp only [allOne, List.all_append, latRow, List.all_cons, List.all_nil, Bool.and_true, Bool.and_eq_true] at h1 h2 ⊢
    exact ⟨⟨rfl, h1⟩, h2⟩
theorem sortLates_sv {h0 h : Heap} {v : Value} {P : List (Lat × Value)} (hF : FreshSl h0 h v 61 2 (P.flatMap latRow) P.length) (hn : P.length < 1000000) (hrl : ∀ p ∈ P, 0 <= p.1.reel /\ p.1.reel < 1000000) (hone : ∀ p ∈ P, allOne [p.2] = true) :
    Sv Tryz.prog 104 [v, .func (.func 105) ⟨[]⟩ ⟨[]⟩] h (RetP fun r h' => r = .tuple ⟨[]⟩ /\ ∃ P' : List (Lat × Value), P'.Perm P /\ P'.Pairwise (fun a b => a.1.reel <= b.1.reel) /\ FreshSl h0 h' v 61 2 (P'.flatMap latRow) P.length /\ Exb (fun c => blkOf v = some c) h h') := by
  refine ⟨fun ι w args' hr hv => ?_⟩
  obtain ⟨l', rfl, hv⟩ := hv.arr
  cases hv with
  | cons hv1 hv2 =>
    cases hv2 with
    | cons hv3 hv4 =>
      cases hv4
      have e3 := hv3.flat_eq rfl
      subst e3
      rcases hF.lies hr hv1 (by decide) with ⟨rfl, rfl, hz, hn0⟩ | ⟨b, bi, op, cap, c, hb, hg, hi, rfl, hc, hle, hV, hl, hnew⟩
      · have : P = [] := List.eq_nil_of_length_eq_zero hn0
        subst this
        refine (AnyF.slices_SortFunc_none laySortF none 0 _ w).mono ?_
        rintro e w' ⟨rfl, rfl⟩
        exact ⟨.ret (.tuple ⟨[]⟩) h, ⟨rfl, [], .refl _, .nil, FreshSl.nil _ _ _ _, Exb.refl _ _⟩, PostV_unch hr (VR.of_flat ι rfl) ⟨Nat.le_refl _, fun _ _ => rfl, rfl, rfl⟩⟩
      · obtain ⟨Z, e1, e2, e3⟩ := rows_of hV hrl (hV.allOne (latRows_one hone))
        have hZl : Z.length = P.length := by rw [<- e1, List.length_map]
        rw [latRows_len] at hle e2
        have hD : ((Z.map Prod.snd).toArray : Array LateE).size = P.length := by simp [hZl]
        have hfl : (flatK encL 2 (Z.map Prod.snd).toArray).toList = c.toList.take (P.length * 2) := by rw [flatK_list]; exact e2
        have hH : HoldsK encL 2 w bi.blk 0 (Z.map Prod.snd).toArray := holds_of (enc := id) hc (by rw [size_flatK, hD, hfl, List.map_id])
        obtain ⟨hbs, -⟩ := Array.getElem?_eq_some_iff.1 hc
        have hK := AnyQ.slices_SortFunc laySortF 2 Tryz.isAgg61 Tryz.sizeOf61 encL encL_len (fun x v hv => by
          have := x.2
          simp only [encL, List.mem_cons, List.not_mem_nil, or_false] at hv
          rcases hv with rfl | rfl
          · rfl
          · exact this.2.2) cfL cfL_swo 105 #[] bi.blk 0 cap (Z.map Prod.snd).toArray w (enters_of Tryz.func105 (by kernel_rfl) rfl) (fun _ _ _ _ x y => byReel x y _) hH hbs (by omega)
        rw [hD] at hK
        refine hK.mono ?_
        rintro e w' ⟨rfl, d', k, os, hp, hs, rfl⟩
        obtain ⟨hp1, -, hp2⟩ := hp
        rw [hD] at hp1
        have hp3 : d'.toList.Perm (Z.map Prod.snd) := by
          have x1 : (d'.extract 0 P.length).toList = d'.toList := by rw [Array.toList_extract]; simp; rw [List.take_of_length_le (by rw [Array.length_toList]; omega)]
          have x2 : ((Z.map Prod.snd).toArray.extract 0 P.length).toList = Z.map Prod.snd := by rw [Array.toList_extract]; simp; rw [<- List.map_take, List.take_of_length_le (by omega)]
          rw [x1, x2] at hp2; exact hp2
        obtain ⟨Z', hz1, hz2⟩ := perm_lift Prod.snd hp3
        have hZ'l : Z'.length = P.length := by rw [hz1.length_eq, hZl]
        have hPp : (Z'.map Prod.fst).Perm P := by rw [<- e1]; exact hz1.map _
        have hPl : (Z'.map Prod.fst).length = P.length := hPp.length_eq
        have e3' : ∀ z ∈ Z', z.2.1.1 = z.1.1.reel /\ VR ι z.1.2 z.2.1.2 := fun z hz => e3 z (hz1.subset hz)
        have hfs : (flatK encL 2 d').size = P.length * 2 := by rw [size_flatK, hp1]
        have hP := PostV_row (h := h) (vs2 := (Z'.map Prod.fst).flatMap latRow) (c2 := putCells id 0 (flatK encL 2 d') c) (r := .tuple ⟨[]⟩) (r' := .tuple ⟨[]⟩) hr hg hi hc putCells_size (by rw [latRows_len, latRows_len, hPl]) (by
          have := take_putCells (enc := id) (d := flatK encL 2 d') (c := c) (by rw [hfs]; exact hle)
          rw [hfs, List.map_id, flatK_list, hz2] at this
          rw [latRows_len, hPl, this]
          exact rows_back e3') (VR.of_flat ι rfl) (sortedW (enc := id) (d := flatK encL 2 d') (n := k) (os := os) hc).1 (sortedW hc).2 rfl rfl
        refine ⟨.ret (.tuple ⟨[]⟩) (h.set b (.cells ((Z'.map Prod.fst).flatMap latRow) 61 op)), ⟨rfl, Z'.map Prod.fst, hPp, ?_, hnew _ _ op (by rw [latRows_len, latRows_len, hPl]) (Upd.mk' h b _).at', ?_⟩, hP⟩
        · rw [List.pairwise_map, List.pairwise_iff_getElem]
          intro i j hi hj hij
          have h5 : ¬ cfL d'[j]! d'[i]! < 0 := of_decide_eq_false (hs i j (Nat.zero_le _) hij (by omega))
          have hdl : d' = (Z'.map Prod.snd).toArray := by rw [<- hz2]
          have g : ∀ q (hq : q < Z'.length), d'[q]! = Z'[q].2 := fun q hq => by
            subst hdl
            rw [getElem!_pos _ q (by simpa using hq)]
            simp
          rw [g i hi, g j hj] at h5
          unfold cfL at h5
          have k1 := (e3' _ (List.getElem_mem hi)).1
          have k2 := (e3' _ (List.getElem_mem hj)).1
          omega
        · refine (Exb.ofUpd (Upd.mk' h b _)).mono fun x hx => by rw [hx]; exact hb
end Go.Dw
/- Y3: contracts: the library's Grow over nil; appending where there is room. -/
namespace Go.Dw
open Go Go.Dx Go.Proofs
set_option maxRecDepth 100000
section
variable {P : Program} {m : Mem} {h : Heap} {d : Option Tmp} {ty : TypeId} {pos : String} {af : Array Edge} {gu : Option (Nat × Bool)}
theorem A_capN {x : Operand} {t : TypeId} {ts : List TypeId} {el : TypeId} {len cap : Nat} {c : Call} (hc : c.callee = .builtin .cap) (hargs : c.args = #[x]) (hat : c.argTypes.toList = t :: ts) (ht : P.underlying t = some (.slice el))
    (hx : opk h m x = some (.slice none len cap)) : Aop P ⟨d, .call c, ty, pos, af, gu⟩ m h (.int .i64 (cap : Int)) h :=
  Aop_of fun e hs => by
    show pCall P _ h e c = _
    unfold pCall
    rw [hc]
    simp only [hargs, hat, abuiltin, opk_opv hs hx, acap, ht]; rfl
theorem A_nilTo {t el : TypeId} {x j : Operand} {kj : IntKind} (ht : P.underlying t = some (.slice el)) (hz : tsz P el = some 1) (hx : opk h m x = some (.slice none 0 0)) (hj : opk h m j = some (.int kj 0)) : Aop P ⟨d, .slice t x none (some j) none, ty, pos, af, gu⟩ m h (.slice none 0 0) h := by
  refine A_flat2 hx hj rfl rfl rfl fun ev w h1 h2 => ?_
  have hsb : sb 0 0 none (some (.int kj 0)) none = some (0, 0, 0) := rfl
  obtain ⟨hrun, _, hm0, _⟩ := sb_run (P := P) (ι := fun _ => none) (lo' := none) (hi' := some (.int kj 0)) (mx' := none) .none (.some (.int kj 0)) .none hsb (Nat.le_refl _) true w
  simp only [execOp, h1, h2, Option.map_some, Option.map_none, Instr.sliceAt, Instr.slice, Sem.run_bind, run_underlying ht, Result.andThen_ok, hrun, Dx.run_sizeOf hz, Sem.run_pure]
  rfl
theorem A_openTo {t el : TypeId} {x j : Operand} {kj : IntKind} {b n : Nat} (hn : 0 < n) (ht : P.underlying t = some (.slice el)) (hz : tsz P el = some 1) (hx : opk h m x = some (.slice (some ⟨b, 0, some 1⟩) n n)) (hj : opk h m j = some (.int kj 0)) : Aop P ⟨d, .slice t x none (some j) none, ty, pos, af, gu⟩ m h (.slice (some ⟨b, 0, some 1⟩) 0 n) h :=
  Aop_of fun e hs => by
    show pSlice P _ h e t x none (some j) none = _
    unfold pSlice
    simp only [opk_opv hs hx, opvo, opk_opv hs hj]
    have : aslice P t (.slice (some ⟨b, 0, some 1⟩) n n) none (some (.int kj 0)) none = some (.slice (some ⟨b, 0, some 1⟩) 0 n) := by
      have hb1 : Nat.ble n n = true := Nat.ble_eq_true_of_le (Nat.le_refl _)
      have c1 : bnd none n n = some n := by simp only [bnd, hb1]
      have c2 : bnd (some (.int kj 0)) n n = some 0 := by
        have : Nat.ble 0 n = true := Nat.ble_eq_true_of_le (Nat.zero_le _)
        show bnd (some (.int kj (Int.ofNat 0))) n n = some 0
        simp only [bnd, natOf, this]
      have c3 : bnd none 0 0 = some 0 := rfl
      have c4 : sb n n none (some (.int kj 0)) none = some (0, 0, n) := by
        unfold sb
        simp only [c1, c2, c3]
      unfold aslice
      rw [ht]
      simp only [c4, hz]
      rfl
    simp only [this]
end
section
variable {P : Program} {fr : Fr} {m : Mem} {ds : List ADef} {h : Heap} {Q : CQ} {ops : Array Oper} {lo : List Oper} {d : Nat} {ty : TypeId} {pos : String} {af : Array Edge} {gu : Option (Nat × Bool)}
theorem Wo_appendRoom {tS tX el : TypeId} {by' : Nat} {c : Call} {s x : Operand} {xv : Value} {l vs r : List Value} {b n k cap : Nat} {sp : Option Nat} {op : Bool} {ts : List TypeId} (hg : gk ops.toList m gu = some true) (hlt : Nat.blt d fr.nt = true) (hc : c.callee = .builtin .append) (hargs : c.args = #[s, x]) (hat : c.argTypes.toList = tS :: tX :: ts) (hS : P.underlying tS = some (.slice el)) (hE : Elm P el 1 by')
    (hs : opk h m s = some (.slice (some ⟨b, 0, sp⟩) n cap)) (hsp : sp = none \/ sp = some 1) (hx : opk h m x = some xv) (hsrc : asrc P el 1 tX xv h = some (k, l)) (h1 : allOne l = true) (hgt : h.get b = some (.cells vs el op)) (hroom : n + k <= cap) (hlay : lay vs n l = some r)
    (hk : ∀ h', Upd h b (.cells r el op) h' -> Wo P fr ops lo (upd m d (.slice (some ⟨b, 0, sp⟩) (n + k) cap)) ds h' Q) : Wo P fr ops (⟨some d, .call c, ty, pos, af, gu⟩ :: lo) m ds h Q := by
  refine Wo_do hg (by show isBuiltin c.callee = true; rw [hc]; rfl) rfl hlt (Aop_of fun e hsat => ?_) (hk _ (Upd.mk' h b _))
  show pCall P _ h e c = _
  unfold pCall
  rw [hc]
  simp only [hargs, hat, abuiltin, opk_opv hsat hs, opk_opv hsat hx]
  obtain ⟨i, z, i1, i2, i3, i4, i5, i6⟩ := hE.h
  have e1 : Nat.ble (Nat.add n k) cap = true := Nat.ble_eq_true_of_le hroom
  have hlay' : lay vs (Nat.add 0 (Nat.mul n 1)) l = some r := by
    rw [show Nat.add 0 (Nat.mul n 1) = n from by show 0 + n * 1 = n; omega]; exact hlay
  unfold aappend
  simp only [hS, i1, i4, i2, i5, i6, hsrc]
  rcases hsp with rfl | rfl
  · simp only [hgt, h1, e1, hlay']; rfl
  · simp only [hgt, h1, e1, hlay']; rfl
end
theorem asrc_zeros {P : Program} {el tX : TypeId} {kk ki : IntKind} {h : Heap} {n : Nat} {z : Value} {by' : Nat} (hX : P.underlying tX = some (.int kk)) (hE : Elm P el 1 by') (hZ : zeroOf P el = some z) (hb : n * by' <= 281474976710656) (hb2 : n < 281474976710656) : asrc P el 1 tX (.int ki n) h = some (n, rep n z.cells.toList) := by
  obtain ⟨i, z', i1, i2, i3, i4, i5, i6⟩ := hE.h
  rw [hZ] at i4; cases i4
  have e1 : Nat.ble (Nat.mul n by') 281474976710656 = true := Nat.ble_eq_true_of_le hb
  have e2 : Nat.blt n 281474976710656 = true := by rw [Nat.blt_eq]; exact hb2
  unfold asrc
  rw [hX]
  simp only [show natOf (.int ki (n : Int)) = some n from rfl, hZ, i1, i3, e1, e2, i5, i6]
theorem zeros_map (n : Nat) : rep n [i64 0] = ((List.range n).map fun _ => (0 : Int)).map i64 := by rw [rep_range, List.map_map]; rfl
theorem allOne_zeros (n : Nat) : allOne (rep n [i64 0]) = true := by rw [zeros_map]; exact allOne_i64 _
theorem grow_sv {h : Heap} {n : Nat} {x : Int} (hx : x = n) (hn : 0 < n) (hn2 : n < 1000000) (hw : WF h) :
    Sv Tryz.prog 145 [.slice none 0 0, i64 x] h (RetP fun v h' => ∃ b sp op, v = .slice (some ⟨b, 0, sp⟩) 0 n /\ (sp = none \/ sp = some 1) /\ h'.get b = some (.cells (rep n [i64 0]) 3 op) /\ h.nx <= b /\ Ext h h') := by
  subst hx
  refine Sv_enter Tryz.func145 rfl (by rw [Tryz.ntmps145]; rfl) ?_; show Wc Tryz.prog ⟨145, 27, none⟩ _ _ _ _ _
  refine zz ?_
  refine Wo_do rfl rfl rfl rfl (A_ff (by omega) (A_lss rfl rfl)) ?_
  refine zz ?_
  refine Wo_do rfl rfl rfl rfl (A_capN rfl rfl rfl Und.h rfl) ?_
  refine zz ?_
  refine Wo_do rfl rfl rfl rfl (A_tt (by omega) (A_gtr rfl rfl)) ?_
  refine zz ?_
  refine Wo_do rfl rfl rfl rfl (A_capN rfl rfl rfl Und.h rfl) ?_
  refine Wo_do rfl rfl rfl rfl (A_nilTo Und.h Tsz.h rfl rfl) ?_
  refine zz ?_
  refine Wo_appendF (h0 := h) (by' := 8) (sz := 1) (k := n) (n := 0) (cs := []) (l := rep n [i64 0]) hw (Ext.refl h) rfl rfl rfl rfl rfl Und.h inferInstance rfl rfl (FreshSl.nil _ _ _ _) ?_ (by rw [rep_length]; rfl) ?_ (by omega) (by omega) fun v' h' hF hE _ _ _ => ?_
  · have e : ((n : Int) - ((0 : Nat) - (0 : Nat) : Int)) = (n : Int) := by omega
    have := asrc_zeros (P := Tryz.prog) (el := 3) (tX := 3) (ki := .i64) (h := h) (n := n) Und.h inferInstance Zr.h (by omega) (by omega)
    rw [<- e] at this
    exact this
  · exact allOne_zeros n
  rw [List.nil_append, Nat.zero_add] at hF
  have key : ∃ b sp op, v' = .slice (some ⟨b, 0, sp⟩) n n /\ (sp = none \/ sp = some 1) /\ h'.get b = some (.cells (rep n [i64 0]) 3 op) /\ h.nx <= b := by
    rcases hF with ⟨_, _, e⟩ | ⟨b, sp, op, e, g1, g2, g3, g4⟩
    · omega
    · exact ⟨b, sp, op, e, g4, g1, g3⟩
  obtain ⟨b, sp, op, rfl, hsp, hg, hb⟩ := key
  refine zz ?_
  rcases hsp with rfl | rfl
  · refine Wo_do rfl rfl rfl rfl (A_sliceTo (k := 0) Und.h Tsz.h rfl rfl rfl (Nat.zero_le _)) ?_
    refine zz ?_
    exact Wc_ret (Lv_ret rfl ⟨b, none, op, rfl, .inl rfl, hg, hb, hE⟩)
  · refine Wo_do rfl rfl rfl rfl (A_openTo hn Und.h Tsz.h rfl rfl) ?_
    refine zz ?_
    exact Wc_ret (Lv_ret rfl ⟨b, some 1, op, rfl, .inr rfl, hg, hb, hE⟩)
end Go.Dw
/- Y4: contracts: the library's Concat of slices of numbers. -/
namespace Go.Dw
open Go Go.Dx Go.Proofs
set_option maxRecDepth 100000
def lenS (L : List (Value × List Value)) : Nat := (L.flatMap Prod.snd).length
theorem lenS_take {L : List (Value × List Value)} {i : Nat} (hi : i < L.length) : lenS (L.take (i + 1)) = lenS (L.take i) + L[i].2.length := by
  unfold lenS
  rw [List.take_succ_eq_append_getElem hi, List.flatMap_append, List.length_append]
  simp
theorem cat_take {L : List (Value × List Value)} {i : Nat} (hi : i < L.length) : (L.take (i + 1)).flatMap Prod.snd = (L.take i).flatMap Prod.snd ++ L[i].2 := by
  rw [List.take_succ_eq_append_getElem hi, List.flatMap_append]
  simp
theorem lenS_le {L : List (Value × List Value)} (i : Nat) : lenS (L.take i) <= lenS L := by
  unfold lenS
  conv => rhs; rw [<- List.take_append_drop i L, List.flatMap_append, List.length_append]
  omega
set_option maxHeartbeats 1000000 in
theorem concat_sv {h : Heap} {L : List (Value × List Value)} {a : Option Addr} {c n : Nat} (hw : WF h) (hn : lenS L = n) (hn0 : 0 < n) (hn1 : n < 1000000) (hL1 : L.length < 1000000)
    (ha : ∀ i (hi : i < L.length), ∃ b o oa, a = some ⟨b, o, oa⟩ /\ cellAt h b (o + i * 1) = some L[i].1)
    (hS : ∀ p ∈ L, (∃ a c, p.1 = .slice a p.2.length c) /\ allOne p.2 = true /\ ∀ h1, Ext h h1 -> asrc Tryz.prog 3 1 31 p.1 h1 = some (p.2.length, p.2)) :
    Sv Tryz.prog 102 [.slice a L.length c] h (RetP fun v h' => FreshSl h h' v 3 1 (L.flatMap Prod.snd) n /\ Ext h h') := by
  refine Sv_enter Tryz.func102 rfl (by rw [Tryz.ntmps102]; rfl) ?_; show Wc Tryz.prog ⟨102, 36, none⟩ _ _ _ _ _
  refine zz ?_
  refine Wc_loop (fun (i : Nat) me ds h' => ds = [] /\ h = h' /\ i <= L.length /\ AllK me [(0, .slice a L.length c), (3, i64 (lenS (L.take i) : Nat)), (9, .slice a L.length c), (10, i64 L.length), (11, i64 i)]) (fun i => L.length - i) 0 ?_ ?_
  · exact ⟨rfl, rfl, Nat.zero_le _, rfl, rfl, rfl, rfl, rfl, trivial⟩
  rintro i me ds _ ⟨rfl, rfl, hi, hall⟩
  refine Wc.le ?_ (Le.kn hall)
  have hle := lenS_le (L := L) i
  refine zz ?_
  refine Wo_dec rfl rfl rfl rfl (A_lss rfl rfl) (fun hlt => ?_) (fun hlt => ?_)
  · have hi' : i < L.length := by omega
    obtain ⟨b, o, oa, rfl, hc⟩ := ha i hi'
    obtain ⟨⟨ai, ci, e⟩, -, -⟩ := hS _ (List.getElem_mem hi')
    rw [e] at hc
    have hle2 := lenS_le (L := L) (i + 1)
    have hs := lenS_take hi'
    refine zz ?_
    refine Wo_do rfl rfl rfl rfl (A_ix Und.h Tsz.h rfl rfl) ?_
    refine zz ?_
    refine Wo_do rfl rfl rfl rfl (A_ff (by omega) (A_lss rfl rfl)) ?_
    refine zz ?_
    refine ⟨i + 1, (by show L.length - (i + 1) < L.length - i; omega), rfl, rfl, hi', rfl, ?_, rfl, rfl, rfl, trivial⟩
    show some (i64 ((lenS (L.take i) : Nat) + (L[i].2.length : Nat))) = some (i64 (lenS (L.take (i + 1)) : Nat))
    rw [hs]; congr 2
  have hiL : i = L.length := by omega
  subst hiL
  rw [List.take_length, hn]
  clear hle
  refine zz ?_
  refine Wo_callr rfl rfl rfl rfl rfl Bod.h rfl rfl (grow_sv (n := n) rfl hn0 hn1 hw) ?_
  rintro _ h1 ⟨b, sp, op, rfl, hsp, hg, hb, hE⟩
  refine zz ?_
  refine Wc_loop (fun (i : Nat) me ds h' => ds = [] /\ i <= L.length /\ ∃ vs, h'.get b = some (.cells vs 3 op) /\ vs.length = n /\ vs.take (lenS (L.take i)) = (L.take i).flatMap Prod.snd /\ Exb (fun c => c = b) h1 h' /\ AllK me [(0, .slice a L.length c), (6, .slice (some ⟨b, 0, sp⟩) (lenS (L.take i)) n), (25, .slice a L.length c), (26, i64 L.length), (27, i64 i)]) (fun i => L.length - i) 0 ?_ ?_
  · exact ⟨rfl, Nat.zero_le _, _, hg, by rw [rep_length]; exact Nat.mul_one _, rfl, Exb.refl _ _, rfl, rfl, rfl, rfl, rfl, trivial⟩
  clear hall
  rintro i me ds h2 ⟨rfl, hi, vs, hg2, hvl, hvt, hX, hall⟩
  refine Wc.le ?_ (Le.kn hall)
  have hE2 : Ext h h2 := hX.ext hE hw fun c e => by omega
  have hle := lenS_le (L := L) i
  refine zz ?_
  refine Wo_dec rfl rfl rfl rfl (A_lss rfl rfl) (fun hlt => ?_) (fun hlt => ?_)
  · have hi' : i < L.length := by omega
    obtain ⟨b', o, oa, rfl, hc⟩ := ha i hi'
    replace hc := hE2.cell hc
    obtain ⟨-, h1, hsrc⟩ := hS _ (List.getElem_mem hi')
    have hle2 := lenS_le (L := L) (i + 1)
    have hs := lenS_take hi'
    have hft := cat_take hi'
    refine zz ?_
    refine Wo_do rfl rfl rfl rfl (A_ix Und.h Tsz.h rfl rfl) ?_
    refine zz ?_
    refine Wo_appendRoom (by' := 8) (l := L[i].2) (k := L[i].2.length) rfl rfl rfl rfl rfl Und.h inferInstance rfl hsp rfl (hsrc h2 hE2) h1 hg2 (by omega) (lay_some (by omega)) fun h3 hU3 => ?_
    refine zz ?_
    refine ⟨i + 1, (by show L.length - (i + 1) < L.length - i; omega), rfl, hi', _, hU3.at', ?_, ?_, hX.upd hU3 rfl, rfl, ?_, rfl, rfl, rfl, trivial⟩
    · simp only [List.length_append, List.length_take, List.length_drop]; omega
    · rw [hvt, hs, hft, <- List.append_assoc]
      exact List.take_left' (by rw [List.length_append]; rfl)
    · rw [hs]; rfl
  have hiL : i = L.length := by omega
  subst hiL
  rw [List.take_length] at hvt
  refine zz ?_
  refine Wc_ret (Lv_ret rfl ⟨?_, hE2⟩)
  rw [hn] at hvt
  rw [List.take_of_length_le (by omega)] at hvt
  rw [List.take_length, hn]
  exact .inr ⟨b, sp, op, rfl, by rw [<- hvt]; exact hg2, by rw [<- hvt, hvl]; omega, hb, hsp⟩
end Go.Dw
/- Y5: contracts: the program's own choose. -/
namespace Go.Dw
open Go Go.Dx Go.Proofs Go.Mt
set_option maxRecDepth 100000
theorem ints_snoc (K : List Nat) (r : Nat) : ints (K ++ [r]) = ints K ++ [(r : Int)] := by simp [ints]
abbrev rsv (h : Heap) : Heap := ⟨h.t, Nat.succ h.nx, h.gl⟩
theorem Ext.rsv (h : Heap) : Ext h (rsv h) := ⟨fun _ _ x => x, Nat.le_succ _, rfl⟩
theorem WF.rsv {h : Heap} (hw : WF h) : WF (rsv h) := fun c x hc => Nat.lt_succ_of_lt (hw c x hc)
theorem WF.upd {h h' : Heap} {b : Nat} {o : AO} (hw : WF h) (hU : Upd h b o h') (hb : b < h.nx) : WF h' := fun c x hc => by
  rw [hU.nx]
  by_cases e : c = b
  · omega
  · rw [hU.other c e] at hc; exact hw c x hc
theorem FreshSl.updL {h0 h h' : Heap} {v : Value} {el : TypeId} {sz n b : Nat} {cs : List Value} {o : AO} (ho : FreshSl h0 h v el sz cs n) (hU : Upd h b o h') (hb : b < h0.nx) : FreshSl h0 h' v el sz cs n := by
  rcases ho with g | ⟨b', sp, op, e1, e2, e3, e4, e5⟩
  · exact .inl g
  · exact .inr ⟨b', sp, op, e1, hU.get (by omega) e2, e3, e4, e5⟩
noncomputable def latP (p : Nat × List Nat) : Lat := ⟨(p.1 : Int), sortI (ints p.2)⟩
theorem lateP_perm (t : Task) : ((goT t).2.map latP).Perm (lateL t) := by
  have hk : ((goT t).2.map Prod.fst).Nodup := (ordN_nodup t).sublist (goN_keys t _)
  have h1 : ((goT t).2.map latP) = ((goT t).2.map Prod.fst).map (latOf t) := by
    rw [List.map_map]
    refine List.map_congr_left fun p hp => ?_
    show latP p = latOf t p.1
    unfold latP latOf
    rw [byOf_mem hp]
  rw [h1]
  refine List.Perm.map _ ((List.perm_ext_iff_of_nodup hk ?_).2 fun r => late_iff.symm)
  exact List.nodup_range.sublist List.filter_sublist
theorem lats_eq {t : Task} {l : List Lat} (hp : l.Perm (lateL t)) (hs : l.Pairwise fun a b => a.reel <= b.reel) : l = lateL t := by
  have hst : (lateL t).Pairwise fun a b => a.reel < b.reel := by
    unfold lateL
    rw [List.pairwise_map]
    refine (List.Pairwise.sublist (List.filter_sublist) List.pairwise_lt_range).imp fun h => ?_
    show ((_ : Nat) : Int) < ((_ : Nat) : Int)
    omega
  have hnd : (l.map Lat.reel).Nodup := by
    rw [(hp.map Lat.reel).nodup_iff]
    exact (List.pairwise_map.2 hst).imp fun h => by omega
  have hls : l.Pairwise fun a b => a.reel < b.reel := by
    refine (List.Pairwise.and hs (List.pairwise_map.1 hnd)).imp fun ⟨h1, h2⟩ => ?_
    have h2 : _ ≠ _ := h2
    omega
  generalize lateL t = s at *
  clear hs hnd
  induction l generalizing s with
  | nil => exact (List.nil_perm.1 hp).symm
  | cons a l ih =>
    cases s with
    | nil => exact absurd (List.perm_nil.1 hp) (by simp)
    | cons b s =>
      rw [List.pairwise_cons] at hls hst
      have e : a = b := by
        rcases List.mem_cons.1 (hp.subset List.mem_cons_self) with e | g
        · exact e
        · rcases List.mem_cons.1 (hp.symm.subset List.mem_cons_self) with e | g2
          · exact e.symm
          · have := hst.1 a g; have := hls.1 b g2; omega
      subst e
      rw [ih hls.2 s ((List.perm_cons a).1 hp) hst.2]
set_option maxHeartbeats 4000000 in
theorem choose_sv {tc : List Value} {t : Task} {h : Heap} (ht : TaskAt h tc t) (hf : t.Fit) (hV : Valid t) :
    Sv Tryz.prog 61 [.agg ⟨tc⟩] h (RetP fun v h' => ∃ (v1 v3 : Value) (P : List (Lat × Value)), v = .tuple ⟨[v1, v3]⟩ /\ Own h h' [slI h v1 3 1 ((keptI t).map i64) (keptI t).length, slI h v3 61 2 (P.flatMap latRow) P.length, lvI h P] /\ P.map Prod.fst = lateL t /\ Ext h h') := by
  have ht0 := ht
  obtain ⟨am, cm, ar, cr, rfl, hM, hR⟩ := ht
  have hr1 := hV.r1
  refine Sv_wf fun hw => ?_
  refine Sv_enter Tryz.func61 rfl (by rw [Tryz.ntmps61]; rfl) ?_; show Wc Tryz.prog ⟨61, 77, none⟩ _ _ _ _ _
  refine zz ?_
  refine Wo_box rfl rfl rfl fun h1 hE1 hW1 hg1 hn1 => ?_
  refine zz ?_
  refine Wo_callr rfl rfl rfl rfl rfl Bod.h rfl rfl (ordered_sv hW1 (RowsAt.ext (R := ReelAt) (fun x y => ReelAt.ext x y) hR hE1) hV) ?_
  rintro v16 h2 ⟨hF16, hE2⟩
  have hol : (ordN t).length = t.reels.length := by rw [(ordN_perm t).length_eq, List.length_range]
  have horn : ∀ r ∈ ordN t, r < t.reels.length := fun r hr => mem_ordN.1 hr
  have hond : (ordN t).Nodup := ordN_nodup t
  have hoi : (ints (ordN t)).length = (ordN t).length := List.length_map _
  rw [<- hol, <- hoi] at hF16
  have hO1 := (Own.nil h h).newCe hw (Nat.le_refl _) hE1 hg1 (Nat.le_refl _)
  have hO2 := hO1.newSl hW1 hE1.2.1 hE2 hF16
  replace hE1 := hE1.trans hE2
  refine Wo_wf fun hw2 => ?_
  replace hO2 := ((hO2.new (y := lvI h []) hw2 hE1.2.1 (Ext.refl _) (fun _ hp => nomatch hp) (fun c hc => by obtain ⟨p, hp, _⟩ := hc; cases hp)).nilSl 61 2).nilSl 3 1
  obtain ⟨a16, rfl, _, -⟩ := hF16.srcAt
  clear hW1 hn1 hE2 hO1 hF16 hw2 hg1
  clear h1
  generalize hord : ordN t = ord at *
  refine zz ?_
  refine Wc_loop (fun (i : Nat) m ds h' => ds = [] /\ i <= ord.length /\ Ext h h' /\ ∃ (v2 v3 : Value) (P : List (Lat × Value)), Own h h' [slI h v2 3 1 ((ints (goN t (ord.take i)).1).map i64) (ints (goN t (ord.take i)).1).length, slI h v3 61 2 (P.flatMap latRow) P.length, lvI h P, slI h (.slice a16 (ints ord).length (ints ord).length) 3 1 ((ints ord).map i64) (ints ord).length, ceI h.nx [i64 t.first, i64 t.days, .slice am t.machines.length cm, .slice ar t.reels.length cr] 25 false] /\ P.map Prod.fst = (goN t (ord.take i)).2.map latP ∧
      AllK m [(1, ptr h.nx), (2, v2), (3, v3), (16, .slice a16 (ints ord).length (ints ord).length), (17, i64 (ints ord).length), (18, i64 i)]) (fun i => ord.length - i) 0 ?_ ?_
  · exact ⟨rfl, Nat.zero_le _, hE1, _, _, [], hO2, rfl, rfl, rfl, rfl, rfl, rfl, rfl, trivial⟩
  clear hO2 hE1
  clear h2
  rintro i m ds h1 ⟨rfl, hi, hE1, v2, v3, P, hO, hP, hall⟩
  refine Wc_wf fun hw1 => ?_
  refine Wc.le ?_ (Le.kn hall)
  have hF2 : FreshSl h h1 v2 3 1 _ _ := hO.p1
  have hF16 : FreshSl h h1 (.slice a16 (ints ord).length (ints ord).length) 3 1 ((ints ord).map i64) (ints ord).length := hO.p4
  have hg1 : h1.get h.nx = some (.cells [i64 t.first, i64 t.days, .slice am t.machines.length cm, .slice ar t.reels.length cr] 25 false) := hO.tail.p4
  obtain ⟨a16', e16, _, hs16⟩ := hF16.srcAt
  simp only [Value.slice.injEq] at e16
  obtain ⟨rfl, _, _⟩ := e16
  have hPl : P.length <= i := by
    have := congrArg List.length hP
    rw [List.length_map, List.length_map] at this
    have h2 := (goN_keys t (ord.take i)).length_le
    rw [List.length_map, List.length_take] at h2
    omega
  refine zz ?_
  refine Wo_dec rfl rfl rfl rfl (A_lss rfl rfl) (fun hip => ?_) (fun hip => ?_)
  rotate_left
  · have : i = ord.length := by omega
    subst this
    rw [List.take_length] at hO hF2 hP
    subst hord
    have hkl := (goT_sub t).length_le
    have hKi : (ints (goT t).1).length = (goT t).1.length := List.length_map _
    clear hs16 hF16 hg1 hi
    refine zz ?_
    refine Wo_callr rfl rfl rfl rfl rfl Bod.h rfl rfl (sortInts_sv hF2 (by show (ints (goT t).1).length < 1000000; omega)) ?_
    rintro _ g1 ⟨rfl, hFs, hX⟩
    have hOs := hO.put (y := slI h v2 3 1 ((keptI t).map i64) (ints (goT t).1).length) hw1 hE1.2.1 hX hFs fun c hc => .inl hc
    replace hE1 := hO.grows hX hE1 hw
    clear hF2 hX hO hw1 hall
    clear h1
    refine Wo_wf fun hw1 => ?_
    have hL1 := lateP_perm t
    have hF3 : FreshSl h g1 v3 61 2 (P.flatMap latRow) P.length := hOs.p2
    have hB3 : (lvI h P).p g1 := hOs.p3
    refine zz ?_
    refine Wo_callr rfl rfl rfl rfl rfl Bod.h rfl rfl (sortLates_sv hF3 (by omega) (fun p hp => ?_) (fun p hp => ?_)) ?_
    · have h1 : p.1 ∈ P.map Prod.fst := List.mem_map_of_mem hp
      rw [hP] at h1
      obtain ⟨q, hq, e⟩ := List.mem_map.1 h1
      have h2 : q.1 ∈ ordN t := (goN_keys t (ordN t)).subset (List.mem_map_of_mem hq)
      have h3 := horn _ h2
      rw [<- e]
      show (0 : Int) <= (q.1 : Int) /\ (q.1 : Int) < 1000000
      omega
    · obtain ⟨a, e, _⟩ := (hB3 p hp).is
      rw [e]; rfl
    rintro _ g2 ⟨rfl, P', hPp, hPs, hF4, hX⟩
    have hO2 := hOs.up2.put (y := slI h v3 61 2 (P'.flatMap latRow) P.length) hw1 hE1.2.1 hX hF4 fun c hc => .inl hc
    replace hE1 := hOs.up2.grows hX hE1 hw
    have hPe : P'.map Prod.fst = lateL t := by
      refine lats_eq ((hPp.map Prod.fst).trans ?_) (List.pairwise_map.2 hPs)
      rw [hP]; exact hL1
    rw [<- hPp.length_eq, show (ints (goT t).1).length = (keptI t).length from (sortI_len _).symm] at hO2
    have hO3 := ((hO2.up3.as (y := lvI h P') (fun hx p hp => hx p (hPp.subset hp)) (fun c hc => by
      obtain ⟨p, hp, hb⟩ := hc
      exact ⟨p, hPp.subset hp, hb⟩)).up3.perm (.cons _ (.swap _ _ _))).sub (.cons_cons _ (.cons_cons _ (.cons_cons _ (List.nil_sublist _))))
    refine zz ?_
    exact Wc_ret (Lv_ret rfl ⟨_, _, P', rfl, hO3, hPe, hE1⟩)
  have hi' : i < ord.length := by omega
  obtain ⟨b4, o4, oa4, rfl, hc4⟩ := hs16.1 i (by omega)
  generalize hkp : (goN t (ord.take i)).1 = K at *
  have hKo : (ints ord)[i]'(by omega) = ((ord[i] : Nat) : Int) := by simp [ints]
  rw [hKo] at hc4
  have hksub : K.Sublist ord := by rw [<- hkp]; exact (goN_sub t _).trans (List.take_sublist _ _)
  have hkl := hksub.length_le
  have hKi : (ints K).length = K.length := List.length_map _
  have hri := horn _ (List.getElem_mem hi')
  have hknd : (K ++ [ord[i]]).Nodup := by
    have h1 : (ord.take (i + 1)).Nodup := hond.sublist (List.take_sublist _ _)
    rw [take_succ hi'] at h1
    exact h1.sublist ((by rw [<- hkp]; exact goN_sub t _ : K.Sublist (ord.take i)).append (List.Sublist.refl _))
  have hkr : ∀ x ∈ K ++ [ord[i]], x < t.reels.length := fun x hx => by
    rcases List.mem_append.1 hx with g | g
    · exact horn x (hksub.subset g)
    · rw [List.mem_singleton.1 g]; exact hri
  have hgs : goN t (ord.take (i + 1)) = stepN t (goN t (ord.take i)) ord[i] := by rw [take_succ hi', goN_snoc]
  generalize hrr : ord[i] = r at *
  have hg1a := (Ext.rsv h1).get hg1
  refine zz ?_
  refine Wo_do rfl rfl rfl rfl (A_ix Und.h Tsz.h rfl rfl) ?_
  refine zz ?_
  refine Wc_draw hmix [0, 0, 2, 0, 8, 30, 63] [0, 1, 3, 4] (some 2) [([], (some 5)), ([], (some 6)), ([], none)] (by kernel_rfl) (by kernel_rfl) ?_
  refine z_r ?_; refine z_m ?_; refine z_m ?_
  refine Wp_new (nk := .sl _ _) rfl rfl rfl rfl rfl (fun _ _ hs => N_bs hs Und.h Tsz.h Zr.h rfl rfl rfl rfl rfl) ?_
  refine Wp_eff (h1 := (rsv h1)) [1] (by kernel_rfl) rfl (Stl_nil rfl) rfl rfl rfl (W1_wfK (W1_call rfl rfl rfl rfl rfl Bod.h (clone_sv (hF2.ext (Ext.rsv h1)) (by omega)) (fun v24 h4 hv hw4 => ?_) (fun _ _ hR => hR.elim)))
  obtain ⟨hF24, hE4⟩ := hv
  have hE14 := (Ext.rsv h1).trans hE4
  have hnx4 : h1.nx < h4.nx := hE4.2.1
  have hU4 := Upd.mk' h4 h1.nx (.cells [i64 (r : Nat)] 3 false)
  have hE4' := hU4.ext hE14 hw1 (Nat.le_refl _)
  have hw4' := hw4.upd hU4 hnx4
  have hF24' := (hF24.updL hU4 (Nat.lt_succ_self _)).base (h0 := h1) (Ext.rsv h1).2.1
  have hg4 := hU4.at'
  have hg14 := hE4'.get hg1
  have hg14o := hE14.get hg1
  refine Wp_eff (h1 := (h4.set h1.nx (.cells [i64 (r : Nat)] 3 false))) [1, 2, 3, 4] (by kernel_rfl) rfl (by refine Stl_new (i := 4) (nk := .sl _ _) rfl rfl rfl rfl rfl (fun _ _ hs => N_bs hs Und.h Tsz.h Zr.h rfl rfl rfl rfl rfl) rfl ?_; refine t_m 3 ?_; refine t_r 0 ?_; exact Stl_nil rfl) rfl rfl rfl (W1_wfK (W1_appendF (by' := 8) (k := 1) (n := (ints K).length) (l := [i64 (r : Nat)]) rfl hw1 hw4' hE4' rfl rfl rfl rfl Und.h inferInstance rfl rfl hF24' ((FreshSl.lit (h0 := h1) (n := 1) (sz := 1) hg4 rfl (Nat.le_refl _)).src (dd := .slice 3) Und.h (by intro k; simp)) rfl rfl (by omega) (by omega) (fun v27 h5 hF27 hE5 hK5 hx5 hv5 hw5 => ?_)))
  rw [<- List.map_singleton (f := i64), <- List.map_append, <- ints_snoc] at hF27
  have hcl : (ints (K ++ [r])).length = (ints K).length + 1 := by rw [ints_snoc, List.length_append]; rfl
  rw [<- hcl] at hF27
  obtain ⟨a27, rfl, _, hs27⟩ := hF27.srcAt
  have hg15 := hE5.get hg1
  have hfit := fits_sv (gb := 57) (fb := []) (cb := []) (bar := fun _ => false) (cap := (ints (K ++ [r])).length) (ht0.ext (hE1.trans hE5)) hf hV hs27.1 (ints_nodup hknd) (fun x hx => by
    obtain ⟨q, hq, rfl⟩ := List.mem_map.1 hx
    have := hkr q hq; omega) (by omega) Bod.h (fun h3 _ p => free_sv p h3)
  rw [show natsL (ints (K ++ [r])) = K ++ [r] from natsL_cast _] at hfit
  refine Wp_eff (h1 := h5) [0, 1, 2, 3, 4, 5] (by kernel_rfl) rfl (by refine t_r 0 ?_; exact Stl_nil rfl) rfl rfl rfl (W1_call rfl rfl rfl rfl rfl Bod.h hfit (fun v28 h6 hv => ?_) (fun _ _ hR => hR.elim))
  obtain ⟨b28, rfl, hb28, hE6⟩ := hv
  have hg16 := hE6.get hg15
  refine Wp_end (h1 := h6) (Stl_nil rfl) rfl ?_
  have hE16 := hE5.trans hE6
  replace hO := hO.ext hE16
  replace hE1 := hE1.trans hE16
  replace hc4 := hE16.cell hc4
  clear hg16 hg15 hfit hs27 hF27 hg14o hg14 hg4 hF24' hw4' hE4' hU4 hnx4 hE14 hE4 hF24 hw4 hg1a hs16 hall hE16 hE6 hE5 hK5 hx5 hv5 hw5 hg1 hF2 hF16 hw1
  clear h4 h5
  refine Wc_wf fun hw6 => ?_
  have hF2 : FreshSl h h6 v2 3 1 _ _ := hO.p1
  have hF3 : FreshSl h h6 v3 61 2 _ _ := hO.p2
  have hg1 : h6.get h.nx = some (.cells [i64 t.first, i64 t.days, .slice am t.machines.length cm, .slice ar t.reels.length cr] 25 false) := hO.tail.p4
  cases b28
  rotate_left
  · have hyes : fitN t (K ++ [r]) := hb28.1 rfl
    have hst : stepN t (goN t (ord.take i)) r = (K ++ [r], (goN t (ord.take i)).2) := by unfold stepN; rw [hkp, if_pos hyes]
    rw [hst] at hgs
    refine zz ?_
    refine Wo_bs rfl rfl Und.h Tsz.h Zr.h rfl rfl rfl rfl rfl fun h7 hE7 hW7 hg7 hx7 => ?_
    refine Wo_appendO (by' := 8) (sz := 1) (k := 1) (n := (ints K).length) (l := [i64 (r : Nat)]) hw (hE1.trans hE7) rfl rfl rfl rfl rfl Und.h inferInstance rfl rfl (hO.ext hE7) ((FreshSl.lit (h0 := h) (n := 1) (sz := 1) hg7 rfl hE1.2.1).src (dd := .slice 3) Und.h (by intro k; simp)) rfl rfl (by omega) (by omega) fun v32 h8 hW8 hO8 hE8 => ?_
    rw [<- List.map_singleton (f := i64), <- List.map_append, <- ints_snoc, <- hcl] at hO8
    refine zz ?_
    refine ⟨i + 1, (by show ord.length - (i + 1) < ord.length - i; omega), rfl, hi', hE8, v32, v3, P, ?_, ?_, rfl, rfl, rfl, rfl, rfl, rfl, trivial⟩
    · rw [hgs]; exact hO8
    · rw [hgs]; exact hP
  have hno : ¬ fitN t (K ++ [r]) := fun g => nomatch hb28.2 g
  have hst : stepN t (goN t (ord.take i)) r = (K, (goN t (ord.take i)).2 ++ [(r, byN t K r)]) := by unfold stepN; rw [hkp, if_neg hno]
  rw [hst] at hgs
  refine zz ?_
  refine Wo_do rfl rfl rfl rfl (A_build rfl rfl) ?_
  refine Wo_allocStore rfl rfl Zr.h Tsz.h rfl (fun _ => rfl) rfl rfl rfl fun h7 hE7 hW7 hg7 hx7 => ?_
  have hO7 := (hO.newCe hw6 hE1.2.1 hE7 hg7 (Nat.le_refl _)).nilSl 3 1
  replace hE1 := hE1.trans hE7
  obtain ⟨a2, rfl, _, -⟩ := hF2.srcAt
  generalize h6.nx = c6 at *
  clear hO hg1 hg7 hx7 hE7 hW7 hF2 hF3 hb28 hw6 hc4
  clear h6
  refine zz ?_
  refine Wc_loop (fun (k : Nat) m ds h' => ds = [] /\ k <= K.length /\ Ext h h' /\ ∃ (vB : Value), Own h h' [slI h vB 3 1 ((ints (byK t K r k)).map i64) (ints (byK t K r k)).length, ceI c6 [i64 (r : Nat), vB] 61 false, slI h (.slice a2 (ints K).length (ints K).length) 3 1 ((ints K).map i64) (ints K).length, slI h v3 61 2 (P.flatMap latRow) P.length, lvI h P, slI h (.slice (some ⟨b4, o4, oa4⟩) (ints ord).length (ints ord).length) 3 1 ((ints ord).map i64) (ints ord).length, ceI h.nx [i64 t.first, i64 t.days, .slice am t.machines.length cm, .slice ar t.reels.length cr] 25 false] ∧
      AllK m [(1, ptr h.nx), (2, .slice a2 (ints K).length (ints K).length), (3, v3), (5, i64 (r : Nat)), (6, ptr c6), (16, .slice (some ⟨b4, o4, oa4⟩) (ints ord).length (ints ord).length), (17, i64 (ints ord).length), (18, i64 i), (35, .slice a2 (ints K).length (ints K).length), (36, i64 (ints K).length), (37, i64 k)]) (fun k => K.length - k) 0 ?_ ?_
  · exact ⟨rfl, Nat.zero_le _, hE1, _, hO7, rfl, rfl, rfl, rfl, rfl, rfl, rfl, rfl, rfl, rfl, rfl, trivial⟩
  clear hO7 hE1
  clear h7
  rintro k m ds g0 ⟨rfl, hk, hE1, vB, hO, hall⟩
  refine Wc_wf fun hw1 => ?_
  refine Wc.le ?_ (Le.kn hall)
  have hF2 : FreshSl h g0 (.slice a2 (ints K).length (ints K).length) 3 1 ((ints K).map i64) (ints K).length := hO.p3
  have hg1 : g0.get h.nx = some (.cells [i64 t.first, i64 t.days, .slice am t.machines.length cm, .slice ar t.reels.length cr] 25 false) := hO.tail.tail.tail.p4
  obtain ⟨a2', e2, _, hs2⟩ := hF2.srcAt
  simp only [Value.slice.injEq] at e2
  obtain ⟨rfl, _, _⟩ := e2
  refine zz ?_
  refine Wo_dec rfl rfl rfl rfl (A_lss rfl rfl) (fun hkp2 => ?_) (fun hkp2 => ?_)
  rotate_left
  · have : k = K.length := by omega
    subst this
    have hBe : byK t K r K.length = byN t K r := rfl
    rw [hBe] at hO
    have hiB : (ints (byN t K r)).length = (byN t K r).length := List.length_map _
    have hlB : (byN t K r).length <= K.length := byK_len t K r K.length
    have hFB : FreshSl h g0 vB 3 1 _ _ := hO.p1
    have hgc : g0.get c6 = some (.cells [i64 (r : Nat), vB] 61 false) := hO.p2
    clear hF2 hs2 hg1
    refine zz ?_
    refine Wo_callr rfl rfl rfl rfl rfl Bod.h rfl rfl (sortInts_sv hFB (by omega)) ?_
    rintro _ g1 ⟨rfl, hFs, hX⟩
    have hOs := hO.put (y := slI h vB 3 1 ((sortI (ints (byN t K r))).map i64) (ints (byN t K r)).length) hw1 hE1.2.1 hX hFs fun c hc => .inl hc
    replace hE1 := hO.grows hX hE1 hw
    clear hFB hgc hX hO hw1 hall
    clear g0
    have hgc : g1.get c6 = some (.cells [i64 (r : Nat), vB] 61 false) := hOs.p2
    obtain ⟨aB, rfl, _, -⟩ := hFs.is
    clear hFs
    refine zz ?_
    refine Wo_bs rfl rfl Und.h Tsz.h Zr.h rfl rfl rfl rfl rfl fun g2 hE2 hW2 hg2 hx2 => ?_
    refine Wo_appendO (by' := 32) (sz := 2) (k := 1) (n := P.length) (l := [i64 (r : Nat), .slice aB (ints (byN t K r)).length (ints (byN t K r)).length]) hw (hE1.trans hE2) rfl rfl rfl rfl rfl Und.h inferInstance rfl rfl (hOs.up4.ext hE2) ((FreshSl.lit (h0 := h) (n := 1) (sz := 2) (cs := [i64 (r : Nat), .slice aB (ints (byN t K r)).length (ints (byN t K r)).length]) hg2 rfl hE1.2.1).src (dd := .slice 61) Und.h (by intro k; simp)) rfl rfl (by omega) (by omega) fun v69 g3 hW3 hO3 hE3 => ?_
    have hO4 := ((hO3.sub (l' := [_, _, _, _, _, _]) (.cons_cons _ (.cons_cons _ (.cons _ (.refl _))))).up4).up3
    have hO5 := (hO4.merge (z := lvI h (P ++ [(latP (r, byN t K r), .slice aB (ints (byN t K r)).length (ints (byN t K r)).length)])) (fun hx hy p hp => by
      rcases List.mem_append.1 hp with g | g
      · exact hy p g
      · rw [List.mem_singleton.1 g]
        show FreshSl h g3 _ 3 1 ((sortI (ints (byN t K r))).map i64) (sortI (ints (byN t K r))).length
        rw [sortI_len]
        exact hx) (fun c hc => by
      obtain ⟨p, hp, hb⟩ := hc
      rcases List.mem_append.1 hp with g | g
      · exact .inr ⟨p, g, hb⟩
      · rw [List.mem_singleton.1 g] at hb; exact .inl hb)).dn3.up2
    refine zz ?_
    refine ⟨i + 1, (by show ord.length - (i + 1) < ord.length - i; omega), rfl, hi', hE3, _, v69, P ++ [(latP (r, byN t K r), .slice aB (ints (byN t K r)).length (ints (byN t K r)).length)], ?_, ?_, rfl, rfl, rfl, rfl, rfl, rfl, trivial⟩
    · rw [hgs, List.flatMap_append, List.length_append]
      exact hO5
    · rw [hgs, List.map_append, List.map_append, hP]
      rfl
  have hk' : k < K.length := by omega
  obtain ⟨b2, o2, oa2, rfl, hc2⟩ := hs2.1 k (by omega)
  have hKk : (ints K)[k]'(by omega) = ((K[k] : Nat) : Int) := by simp [ints]
  rw [hKk] at hc2
  obtain ⟨v44, hs44, hA44⟩ := A_freshTo (P := Tryz.prog) (t := 31) (tX := 31) (ki := .i64) (dd := .slice 3) (k := k) hF2 (by omega) Und.h Tsz.h Und.h (by intro k; simp) (by omega)
  obtain ⟨v48, hs48, hA48⟩ := A_freshFrom (P := Tryz.prog) (t := 31) (tX := 31) (ki := .i64) (dd := .slice 3) (k := k + 1) hF2 (by omega) Und.h Tsz.h Und.h (by intro k; simp) (by omega)
  obtain ⟨a44, c44, rfl, -⟩ := asrc_list Und.h (hs44 g0 h hF2)
  obtain ⟨a48, c48, rfl, -⟩ := asrc_list Und.h (hs48 g0 h hF2)
  have hEa1 := Ext.add hw1 (.cells [i64 (r : Nat)] 3 false)
  have hwa := hw1.add (.cells [i64 (r : Nat)] 3 false)
  have hEa2 := Ext.add hwa (.cells [.slice a44 k c44, .slice a48 ((ints K).length - (k + 1)) c48, .slice (some ⟨g0.nx, 0, none⟩) 1 1] 31 false)
  have hwb := hwa.add (.cells [.slice a44 k c44, .slice a48 ((ints K).length - (k + 1)) c48, .slice (some ⟨g0.nx, 0, none⟩) 1 1] 31 false)
  have hEa := hEa1.trans hEa2
  have hlitg : ((g0.add (.cells [i64 (r : Nat)] 3 false)).add (.cells [.slice a44 k c44, .slice a48 ((ints K).length - (k + 1)) c48, .slice (some ⟨g0.nx, 0, none⟩) 1 1] 31 false)).get g0.nx = some (.cells [i64 (r : Nat)] 3 false) := hEa2.get Heap.get_add_same
  have hrowg : ((g0.add (.cells [i64 (r : Nat)] 3 false)).add (.cells [.slice a44 k c44, .slice a48 ((ints K).length - (k + 1)) c48, .slice (some ⟨g0.nx, 0, none⟩) 1 1] 31 false)).get (g0.add (.cells [i64 (r : Nat)] 3 false)).nx = some (.cells [.slice a44 k c44, .slice a48 ((ints K).length - (k + 1)) c48, .slice (some ⟨g0.nx, 0, none⟩) 1 1] 31 false) := Heap.get_add_same
  have hcat : ([(.slice a44 k c44, ((ints K).map i64).take k), (.slice a48 ((ints K).length - (k + 1)) c48, ((ints K).map i64).drop (k + 1)), (.slice (some ⟨g0.nx, 0, none⟩) 1 1, [i64 (r : Nat)])] : List (Value × List Value)).flatMap Prod.snd = (ints (K.take k ++ K.drop (k + 1) ++ [r])).map i64 := by
    simp [ints, List.map_take, List.map_drop]
  have hcl2 : (ints (K.take k ++ K.drop (k + 1) ++ [r])).length = (ints K).length := by
    rw [hKi]; simp [ints]; omega
  have hcon := concat_sv (L := [(.slice a44 k c44, ((ints K).map i64).take k), (.slice a48 ((ints K).length - (k + 1)) c48, ((ints K).map i64).drop (k + 1)), (.slice (some ⟨g0.nx, 0, none⟩) 1 1, [i64 (r : Nat)])]) (a := some ⟨(g0.add (.cells [i64 (r : Nat)] 3 false)).nx, 0, none⟩) (c := 3) (n := (ints K).length) hwb (by unfold lenS; rw [hcat, List.length_map, hcl2]) (by omega) (by omega) (by show 3 < 1000000; omega) (fun j hj => by
    refine ⟨_, _, _, rfl, cellAt_cells hrowg ?_⟩
    have hj : j < 3 := hj
    match j, hj with
    | 0, _ => rfl
    | 1, _ => rfl
    | 2, _ => rfl) (fun p hp => by
    have q1 : (((ints K).map i64).take k).length = k := by rw [List.length_take, List.length_map]; omega
    have q2 : (((ints K).map i64).drop (k + 1)).length = (ints K).length - (k + 1) := by rw [List.length_drop, List.length_map]
    simp only [List.mem_cons, List.not_mem_nil, or_false] at hp
    rcases hp with rfl | rfl | rfl
    · refine ⟨⟨a44, c44, by simp only [q1]⟩, by rw [<- List.map_take]; exact allOne_i64 _, fun h2 hE2 => ?_⟩
      have := hs44 h2 h ((hF2.ext hEa).ext hE2)
      simp only [q1]; exact this
    · refine ⟨⟨a48, c48, by simp only [q2]⟩, by rw [<- List.map_drop]; exact allOne_i64 _, fun h2 hE2 => ?_⟩
      have := hs48 h2 h ((hF2.ext hEa).ext hE2)
      simp only [q2]; exact this
    · exact ⟨⟨_, _, rfl⟩, rfl, fun h2 hE2 => (FreshSl.lit (h0 := h) (n := 1) (sz := 1) (hE2.get hlitg) rfl hE1.2.1).src (dd := .slice 3) Und.h (by intro k; simp)⟩)
  rw [hcat] at hcon
  refine zz ?_
  refine Wo_do rfl rfl rfl rfl (A_ix Und.h Tsz.h rfl rfl) ?_
  refine zz ?_
  refine Wc_draw hmix [0, 0, 3, 0, 0, 16, 56, 0, 128, 511, 1023, 2047] [0, 1, 2, 3, 4, 5, 6, 7, 8, 9] (some 10) [([], (some 11)), ([], none)] (by kernel_rfl) (by kernel_rfl) ?_
  refine z_m ?_; refine z_m ?_; refine Wp_pure rfl rfl rfl rfl rfl (fun _ => hA44 rfl rfl) ?_; refine z_m ?_; refine z_m ?_; refine z_y ?_; refine Wp_pure rfl rfl rfl rfl rfl (fun _ => hA48 rfl rfl) ?_; refine z_m ?_
  refine Wp_new (nk := .sl _ _) rfl rfl rfl rfl rfl (fun _ _ hs => N_bs hs Und.h Tsz.h Zr.h rfl rfl rfl rfl rfl) ?_
  refine Wp_new (nk := .sl _ _) rfl rfl rfl rfl rfl (fun _ _ hs => N_bs hs Und.h Tsz.h Zr.h rfl rfl rfl rfl rfl) ?_
  refine Wp_eff (h1 := ((g0.add _).add _)) [0, 1, 2, 3, 4, 5, 6, 7, 8, 9] (by kernel_rfl) rfl (Stl_nil rfl) rfl rfl rfl (W1_wfK (W1_call rfl rfl rfl rfl rfl Bod.h hcon (fun v52 h9 hv hw9 => ?_) (fun _ _ hR => hR.elim)))
  obtain ⟨hF52, hE9⟩ := hv
  have hE19 := hEa.trans hE9
  replace hF52 := hF52.base (h0 := h) (hE1.trans hEa).2.1
  rw [<- hcl2] at hF52
  obtain ⟨a52, rfl, _, hs52⟩ := hF52.srcAt
  refine Wp_eff (h1 := h9) [0, 1, 2, 3, 4, 5, 6, 7, 8, 9, 10] (by kernel_rfl) rfl (Stl_nil rfl) rfl rfl rfl (W1_op rfl rfl (A_assign rfl) ?_)
  refine Wp_end (h1 := h9) (Stl_nil rfl) rfl ?_
  replace hO := hO.ext hE19
  replace hg1 := hE19.get hg1
  replace hc2 := hE19.cell hc2
  replace hE1 := hE1.trans hE19
  have hnd2 : (K.take k ++ K.drop (k + 1) ++ [r]).Nodup := by
    refine List.Nodup.sublist ?_ hknd
    refine List.Sublist.append ?_ (List.Sublist.refl _)
    conv => rhs; rw [<- List.take_append_drop k K]
    exact List.Sublist.append (List.Sublist.refl _) (by rw [List.drop_eq_getElem_cons hk']; exact List.sublist_cons_self _ _)
  have hin2 : ∀ x ∈ K.take k ++ K.drop (k + 1) ++ [r], x < t.reels.length := fun x hx => by
    rcases List.mem_append.1 hx with g | g
    · refine hkr x (List.mem_append_left _ ?_)
      rcases List.mem_append.1 g with g | g
      · exact List.mem_of_mem_take g
      · exact List.mem_of_mem_drop g
    · exact hkr x (List.mem_append_right _ g)
  have hfit := fits_sv (gb := 57) (fb := []) (cb := []) (bar := fun _ => false) (cap := (ints (K.take k ++ K.drop (k + 1) ++ [r])).length) (ht0.ext hE1) hf hV hs52.1 (ints_nodup hnd2) (fun x hx => by
    obtain ⟨q, hq, rfl⟩ := List.mem_map.1 hx
    have := hin2 q hq; omega) (by omega) Bod.h (fun h3 _ p => free_sv p h3)
  rw [show natsL (ints (K.take k ++ K.drop (k + 1) ++ [r])) = K.take k ++ K.drop (k + 1) ++ [r] from natsL_cast _] at hfit
  have hbs := byK_succ (t := t) (r := r) hk'
  refine zz ?_
  refine Wo_callr rfl rfl rfl rfl rfl Bod.h rfl rfl hfit ?_
  rintro _ h10 ⟨b10, rfl, hb10, hE10⟩
  replace hO := hO.ext hE10
  replace hE1 := hE1.trans hE10
  clear hfit hs52 hF52 hE19 hg1 hc2 hE10 hE9 hw9 hcon hwb hwa hlitg hrowg hEa hEa1 hEa2 hF2 hs2 hs44 hA44 hs48 hA48 hall
  clear h9
  refine Wo_wf fun hw10 => ?_
  have hlB : (byK t K r k).length <= k := byK_len t K r k
  cases b10
  · have hno2 : ¬ fitN t (K.take k ++ K.drop (k + 1) ++ [r]) := fun g => nomatch hb10.2 g
    rw [if_neg hno2, List.append_nil] at hbs
    rw [<- hbs] at hO
    refine zz ?_
    exact ⟨k + 1, (by show K.length - (k + 1) < K.length - k; omega), rfl, hk', hE1, vB, hO, rfl, rfl, rfl, rfl, rfl, rfl, rfl, rfl, rfl, rfl, rfl, trivial⟩
  have hyes2 : fitN t (K.take k ++ K.drop (k + 1) ++ [r]) := hb10.1 rfl
  rw [if_pos hyes2] at hbs
  have hgc : h10.get c6 = some (.cells [i64 (r : Nat), vB] 61 false) := hO.p2
  have hiB : (ints (byK t K r k)).length = (byK t K r k).length := List.length_map _
  refine zz ?_
  refine Wo_bs rfl rfl Und.h Tsz.h Zr.h rfl rfl rfl rfl rfl fun h11 hE11 hW11 hg11 hx11 => ?_
  refine Wo_appendO (by' := 8) (sz := 1) (k := 1) (n := (ints (byK t K r k)).length) (l := [i64 (K[k] : Nat)]) hw (hE1.trans hE11) rfl rfl rfl rfl rfl Und.h inferInstance rfl rfl (hO.ext hE11) ((FreshSl.lit (h0 := h) (n := 1) (sz := 1) hg11 rfl hE1.2.1).src (dd := .slice 3) Und.h (by intro k; simp)) rfl rfl (by omega) (by omega) fun vB2 h12 hW12 hO12 hE12 => ?_
  obtain ⟨aB2, rfl, _, -⟩ := (show FreshSl h h12 vB2 3 1 _ _ from hO12.p1).is
  have hO13 := hO12.up2
  refine zz ?_
  refine Wo_storeO hw hE12 rfl Tsz.h rfl rfl hO13 rfl rfl rfl fun h13 hW13 hO14 hE14 => ?_
  have hO15 := hO14.up2
  rw [<- List.map_singleton (f := i64), <- List.map_append, <- ints_snoc, <- hbs] at hO15
  have hlc : (ints (byK t K r k)).length + 1 = (ints (byK t K r (k + 1))).length := by rw [hbs, ints_snoc, List.length_append]; rfl
  rw [hlc] at hO15
  refine zz ?_
  exact ⟨k + 1, (by show K.length - (k + 1) < K.length - k; omega), rfl, hk', hE14, _, hO15, rfl, rfl, rfl, rfl, rfl, rfl, rfl, rfl, rfl, rfl, rfl, trivial⟩
end Go.Dw
/- Y6: contracts: the program's own Plan, part 1: places given. -/
namespace Go.Dw
open Go Go.Dx Go.Proofs Go.Mt
set_option maxRecDepth 100000
def GivenIs (h : Heap) (bm : Nat) (G : List Pl) : Prop := ∃ lu, MapB placeK h bm lu /\ Once lu /\ ∀ p, lkp p lu = if p ∈ G then some (.bool true) else none
theorem GivenIs.some' {h h' : Heap} {b : Nat} {G : List Pl} (a : GivenIs h b G) (he : ∀ o, h.get b = some o -> h'.get b = some o) : GivenIs h' b G := by
  obtain ⟨l, h1, h2⟩ := a; exact ⟨l, MapB.some placeK h1 he, h2⟩
theorem GivenIs.ext {h h' : Heap} {b : Nat} {G : List Pl} (a : GivenIs h b G) (he : Ext h h') : GivenIs h' b G := a.some' fun _ => he.get
theorem GivenIs.congr {h : Heap} {b : Nat} {G G' : List Pl} (a : GivenIs h b G) (hg : ∀ p, p ∈ G ↔ p ∈ G') : GivenIs h b G' := by
  obtain ⟨l, h1, h2, h3⟩ := a
  refine ⟨l, h1, h2, fun p => ?_⟩
  rw [h3]; simp only [hg p]
def givI (bm : Nat) (G : List Pl) : It where
  S := fun c => c = bm
  p := fun h => GivenIs h bm G
  loc := fun hk a => a.some' fun o ho => hk _ o rfl ho
  ex := fun {h c} a hc => by obtain ⟨l, ⟨es, cl, h1, _⟩, _⟩ := a; exact ⟨_, hc ▸ h1⟩
end Go.Dw
/- Y7: contracts: the program's own Plan, part 2. -/
namespace Go.Dw
open Go Go.Dx Go.Proofs Go.Mt
set_option maxRecDepth 100000
theorem Own.join {h0 h h' : Heap} {l l2 : List It} (hO : Own h0 h l) (hw : WF h) (hn : h0.nx <= h.nx) (he : Ext h h') (h2 : Own h h' l2) : Own h0 h' (l2 ++ l) := by
  refine ⟨fun x hx => ?_, fun x hx c hc => ?_, List.pairwise_append.2 ⟨h2.ap, hO.ap, fun y hy z hz c hc hzc => ?_⟩⟩
  · rcases List.mem_append.1 hx with g | g
    · exact h2.has x g
    · exact (hO.ext he).has x g
  · rcases List.mem_append.1 hx with g | g
    · exact Nat.le_trans hn (h2.lo x g c hc)
    · exact hO.lo x g c hc
  · obtain ⟨o, ho⟩ := z.ex (hO.has z hz) hzc
    have h3 := h2.lo y hy c hc
    have := hw _ _ ho; omega
theorem FreshSl.del {h0 h1 h : Heap} {v : Value} {el : TypeId} {sz n : Nat} {cs : List Value} {rs : List Nat} (hF : FreshSl h0 h v el sz cs n) (hC : Colls h1 h rs) : FreshSl h0 (delL h rs) v el sz cs n := hF.keep fun b o hb hg => by
  obtain ⟨op, h2⟩ := hF.got hb
  rw [h2] at hg; cases hg
  exact hC.get h2
theorem Own.at {h0 h : Heap} {l : List It} (hO : Own h0 h l) (n : Nat) {x : It} (e : l[n]? = some x) : x.p h := hO.has x (List.mem_of_getElem? e)
def loI (b : Nat) (o : AO) : It where
  S := fun c => c = b
  p := fun h => h.get b = some o
  loc := fun hk hp => hk _ _ rfl hp
  ex := fun hp hc => ⟨_, hc ▸ hp⟩
end Go.Dw
