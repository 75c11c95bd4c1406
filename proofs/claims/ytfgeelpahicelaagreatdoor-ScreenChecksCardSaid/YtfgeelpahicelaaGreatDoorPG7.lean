/- G1: contracts of screen.named and screen.each, for each type. -/
import Derived.Test.YtfgeelpahicelaaGreatDoorPG2
import Derived.Test.YtfgeelpahicelaaGreatDoorPG5
import Derived.Test.YtfgeelpahicelaaGreatDoorPG6
import Derived.Test.YtfgeelpahicelaaGreatDoorPG3
namespace Go.Dw
open Go Go.Dx Go.Proofs
set_option maxRecDepth 100000
theorem ba_beq (a b : List UInt8) : ((⟨⟨a⟩⟩ : ByteArray) == ⟨⟨b⟩⟩) = decide (a = b) := by
  have : ((⟨⟨a⟩⟩ : ByteArray) == ⟨⟨b⟩⟩) = ((⟨a⟩ : Array UInt8) == ⟨b⟩) := rfl
  rw [this, Bool.eq_iff_iff]; simp
noncomputable def strK : KeyK Tryz.prog 9 (List UInt8) where
  enc := str
  ks := .basic .string
  hks := by kernel_rfl
  flat := fun _ => rfl
  ok := fun _ => rfl
  eq := fun a b => by
    show Instr.sameNow .string (str a) (str b) = _
    simp [Instr.sameNow, ba_beq]
  same := fun a => by simp [Instr.sameBits, ba_beq]
structure NmI (h0 h : Heap) (bm : Nat) (before : List (List UInt8)) : Prop where
  ext : Ext h0 h
  mp : ∃ l, MapAt strK h bm l /\ ∀ s, lkp s l = if s ∈ before then some (.bool true) else none
  lt : h0.nx <= bm
theorem NmI.grow {h0 h h' : Heap} {bm : Nat} {before : List (List UInt8)} (c : NmI h0 h bm before) (he : Ext h h') : NmI h0 h' bm before := by
  obtain ⟨l, m1, m2⟩ := c.mp
  exact ⟨c.ext.trans he, ⟨l, m1.ext _ he, m2⟩, c.lt⟩
theorem NmI.upd {h0 h h' : Heap} {bm x : Nat} {before : List (List UInt8)} {o : AO} (c : NmI h0 h bm before) (u : Upd h x o h') (hw : WF h0) (hx : h0.nx <= x) (h2 : bm ≠ x) : NmI h0 h' bm before := by
  obtain ⟨l, m1, m2⟩ := c.mp
  exact ⟨u.ext c.ext hw hx, ⟨l, m1.get _ (u.other _ h2), m2⟩, c.lt⟩
theorem setMem {before : List (List UInt8)} {l : List (List UInt8 × Value)} {s : List UInt8} (h : ∀ x, lkp x l = if x ∈ before then some (.bool true) else none) (x : List UInt8) : lkp x (setK s (.bool true) l) = if x ∈ before ++ [s] then some (.bool true) else none := by
  rw [lkp_setK, h x]
  by_cases hx : x = s
  · simp [hx]
  · simp [hx]
def oI : Option (Nat × Int) -> Int
  | none => 0
  | some (i, _) => (i : Nat)
def oE : Option (Nat × Int) -> Int
  | none => 0
  | some (_, e) => e
def tupO (o : Option (Nat × Int)) : Value := .tuple ⟨[i64 (oI o), i64 (oE o)]⟩
theorem goNm_ne {α : Type} {nm : α -> List UInt8} {wrong : α -> Int} : ∀ {l : List α} {i : Nat} {b : List (List UInt8)} {j : Nat} {e : Int}, goNm nm wrong i b l = some (j, e) -> e ≠ 0 := by
  intro l
  induction l with
  | nil => intro i b j e h; cases h
  | cons x l ih =>
    intro i b j e h
    unfold goNm at h
    split at h
    · rename_i h1; cases h; exact h1
    · split at h
      · rename_i h2; cases h; exact h2
      · exact ih h
theorem goEa_ne {α : Type} {wrong : α -> Int} : ∀ {l : List α} {i : Nat} {j : Nat} {e : Int}, goEa wrong i l = some (j, e) -> e ≠ 0 := by
  intro l
  induction l with
  | nil => intro i j e h; cases h
  | cons x l ih =>
    intro i j e h
    unfold goEa at h
    split at h
    · rename_i h1; cases h; exact h1
    · exact ih h
theorem orE_ne {p : Int} {o : Option (Nat × Int)} {x : Int × Int × Int} (h : ¬ oE o = 0) : orE p o x = (p, oI o, oE o) := by
  cases o with
  | none => exact absurd rfl h
  | some y => rfl
theorem orE_eq {p : Int} {o : Option (Nat × Int)} {x : Int × Int × Int} (hn : ∀ {j : Nat} {e : Int}, o = some (j, e) -> e ≠ 0) (h : oE o = 0) : orE p o x = x := by
  cases o with
  | none => rfl
  | some y => exact absurd h (hn (e := y.2) rfl)
theorem namedS_sv {a : Option Addr} {cap : Nat} {l : List (List UInt8)} {wrong : (List UInt8) -> Int} {h : Heap} {g1 g2 : FuncId} {f2 : List Value} (hI : StrsAt h a l) (hlen : Len l) (hN : ∀ x ∈ l, Len (x)) (hb1 : bodied Tryz.prog g1 = true) (hb2 : bodied Tryz.prog g2 = true)
    (hp1 : (∀ h1, Ext h h1 -> ∀ x, x ∈ l -> Sv Tryz.prog g1 ([] ++ ([str x] ++ [])) h1 (RetP fun v h' => v = str (x) /\ Ext h1 h')))
    (hp2 : (∀ h1, Ext h h1 -> ∀ x, x ∈ l -> Sv Tryz.prog g2 (f2 ++ ([str x] ++ [])) h1 (RetP fun v h' => v = i64 (wrong x) /\ Ext h1 h'))) :
    Sv Tryz.prog 56 [.slice a l.length cap, .func (.func g1) ⟨[]⟩ ⟨[]⟩, .func (.func g2) ⟨f2⟩ ⟨[]⟩] h (RetP fun v h' => v = tupO (goNm id wrong 0 [] l) /\ Ext h h') := by
  refine Sv_wf fun hw => ?_
  refine Sv_enter Tryz.func56 rfl (by rw [Tryz.ntmps56]; rfl) ?_; show Wc Tryz.prog ⟨56, 44, none⟩ _ _ _ _ _
  refine zy ?_
  refine Wo_mkMap rfl rfl fun h6 hE6 hW6 hg6 hn6 => ?_
  have hI0 : NmI h h6 h.nx [] := ⟨hE6, ⟨[], MapAt.new _ hg6, fun _ => rfl⟩, Nat.le_refl _⟩
  generalize hbm : h.nx = bm at *
  refine zy ?_
  refine Wc_loop (fun (k : Nat) m ds h' => ds = [] /\ k <= l.length /\ NmI h h' bm ((l.take k).map id) /\ goNm id wrong 0 [] l = goNm id wrong k ((l.take k).map id) (l.drop k) ∧
      AllK m [(1, .func (.func g1) ⟨[]⟩ ⟨[]⟩), (2, .func (.func g2) ⟨f2⟩ ⟨[]⟩), (8, .map (some bm)), (14, .slice a l.length cap), (15, i64 l.length), (16, i64 k)]) (fun k => l.length - k) 0 ?_ ?_
  · exact ⟨rfl, Nat.zero_le _, hI0, rfl, rfl, rfl, rfl, rfl, rfl, rfl, trivial⟩
  clear hI0 hg6 hE6 hW6 hn6
  clear h6
  rintro k m ds h1 ⟨rfl, hk, hC, hgo, hall⟩
  refine Wc_wf fun hw1 => ?_
  refine Wc.le ?_ (Le.kn hall)
  refine zy ?_
  refine Wo_dec rfl rfl rfl rfl (A_lss rfl rfl) (fun h6 => ?_) (fun h6 => ?_)
  · have hk' : k < l.length := by simpa using h6
    have hdr : l.drop k = l[k] :: l.drop (k + 1) := List.drop_eq_getElem_cons hk'
    have htk : l.take (k + 1) = l.take k ++ [l[k]] := by rw [List.take_add_one, List.getElem?_eq_getElem hk']; rfl
    rw [hdr, goNm] at hgo
    have hxm := List.getElem_mem hk'
    obtain ⟨b, o, oa, rfl, hc⟩ := hI k hk'
    have hxN := hN _ hxm
    generalize hmk : l[k] = x at *
    replace hc := hC.ext.cell hc
    refine zy ?_
    refine Wo_do rfl rfl rfl rfl (A_ix Und.h Tsz.h rfl rfl) ?_
    refine zy ?_
    refine Wo_callE rfl rfl rfl rfl rfl hb1 rfl rfl (hp1 h1 hC.ext _ hxm) fun h4 hE4 => ?_
    have hC3 := hC.grow hE4
    refine zy ?_
    refine Wo_callB rfl rfl rfl rfl rfl Bod.h rfl rfl (filmName_sv _ _ hxN) (fun h8 h9 hE9 => ?_) (fun h8 h9 hE9 => ?_)
    rotate_left
    · refine zy ?_
      refine Wc_ret (Lv_ret rfl ⟨?_, (hC3.grow hE9).ext⟩)
      rw [name_eq] at h8
      have hne : nameErr (x) ((l.take k).map id) = 6 := by simp [nameErr, h8]
      rw [show nameErr (id x) ((l.take k).map id) = 6 from hne, if_pos (by decide)] at hgo
      rw [hgo]; rfl
    rw [name_eq] at h8
    replace hC3 := hC3.grow hE9
    obtain ⟨l', mp1, mp2⟩ := hC3.mp
    refine zy ?_
    refine Wo_do rfl rfl rfl rfl (A_lookup strK Und.h Zr.h rfl mp1 (k := x) rfl) ?_
    rw [mp2]
    by_cases hin : x ∈ (l.take k).map id
    · rw [if_pos hin]
      refine zy ?_
      refine Wc_ret (Lv_ret rfl ⟨?_, hC3.ext⟩)
      have hne : nameErr (x) ((l.take k).map id) = 5 := by rw [nameErr, if_neg (by rw [h8]; simp), if_pos hin]
      rw [show nameErr (id x) ((l.take k).map id) = 5 from hne, if_pos (by decide)] at hgo
      rw [hgo]; rfl
    rw [if_neg hin]
    have hne : nameErr (x) ((l.take k).map id) = 0 := by rw [nameErr, if_neg (by rw [h8]; simp), if_neg hin]
    rw [show nameErr (id x) ((l.take k).map id) = 0 from hne, if_neg (by decide)] at hgo
    refine zy ?_
    refine Wo_callE rfl rfl rfl rfl rfl hb2 rfl rfl (hp2 _ hC3.ext _ hxm) fun h12 hE12 => ?_
    refine zy ?_
    refine Wo_dec rfl rfl rfl rfl (A_neq rfl rfl) (fun h10 => ?_) (fun h10 => ?_)
    · refine zy ?_
      refine Wc_ret (Lv_ret rfl ⟨?_, (hC3.grow hE12).ext⟩)
      rw [if_pos h10] at hgo
      rw [hgo]; rfl
    rw [if_neg h10] at hgo
    replace hC3 := hC3.grow hE12
    obtain ⟨l', mp1, mp2⟩ := hC3.mp
    refine zy ?_
    refine Wo_mapUpdate strK rfl Und.h rfl mp1 (k := x) rfl rfl fun h13 o13 hU13 hM13 => ?_
    refine zy ?_
    refine ⟨k + 1, ?_, rfl, hk', ?_, ?_, rfl, rfl, rfl, rfl, rfl, rfl, trivial⟩
    · show l.length - (k + 1) < l.length - k; omega
    · rw [htk, List.map_append]
      refine ⟨hU13.ext hC3.ext hw hC3.lt, ⟨_, hM13, ?_⟩, hC3.lt⟩
      exact fun x => setMem mp2 x
    · rw [htk, List.map_append]; exact hgo
  have hgN : goNm id wrong 0 [] l = none := by
    have hk2 : k = l.length := by omega
    rw [hgo, hk2, List.drop_length]; rfl
  refine zy ?_
  exact Wc_ret (Lv_ret rfl ⟨by rw [hgN]; rfl, hC.ext⟩)
theorem namedV_sv {a : Option Addr} {cap : Nat} {l : List ScV} {wrong : ScV -> Int} {h : Heap} {g1 g2 : FuncId} {f2 : List Value} (hI : RowsAt 9 ScVR h a l) (hlen : Len l) (hN : ∀ x ∈ l, Len (ScV.name x)) (hb1 : bodied Tryz.prog g1 = true) (hb2 : bodied Tryz.prog g2 = true)
    (hp1 : (∀ h1, Ext h h1 -> ∀ row x, x ∈ l -> ScVR h1 row x -> Sv Tryz.prog g1 ([] ++ ([.agg ⟨row⟩] ++ [])) h1 (RetP fun v h' => v = str (ScV.name x) /\ Ext h1 h')))
    (hp2 : (∀ h1, Ext h h1 -> ∀ row x, x ∈ l -> ScVR h1 row x -> Sv Tryz.prog g2 (f2 ++ ([.agg ⟨row⟩] ++ [])) h1 (RetP fun v h' => v = i64 (wrong x) /\ Ext h1 h'))) :
    Sv Tryz.prog 60 [.slice a l.length cap, .func (.func g1) ⟨[]⟩ ⟨[]⟩, .func (.func g2) ⟨f2⟩ ⟨[]⟩] h (RetP fun v h' => v = tupO (goNm ScV.name wrong 0 [] l) /\ Ext h h') := by
  refine Sv_wf fun hw => ?_
  refine Sv_enter Tryz.func60 rfl (by rw [Tryz.ntmps60]; rfl) ?_; show Wc Tryz.prog ⟨60, 44, none⟩ _ _ _ _ _
  refine zy ?_
  refine Wo_mkMap rfl rfl fun h6 hE6 hW6 hg6 hn6 => ?_
  have hI0 : NmI h h6 h.nx [] := ⟨hE6, ⟨[], MapAt.new _ hg6, fun _ => rfl⟩, Nat.le_refl _⟩
  generalize hbm : h.nx = bm at *
  refine zy ?_
  refine Wc_loop (fun (k : Nat) m ds h' => ds = [] /\ k <= l.length /\ NmI h h' bm ((l.take k).map ScV.name) /\ goNm ScV.name wrong 0 [] l = goNm ScV.name wrong k ((l.take k).map ScV.name) (l.drop k) ∧
      AllK m [(1, .func (.func g1) ⟨[]⟩ ⟨[]⟩), (2, .func (.func g2) ⟨f2⟩ ⟨[]⟩), (8, .map (some bm)), (14, .slice a l.length cap), (15, i64 l.length), (16, i64 k)]) (fun k => l.length - k) 0 ?_ ?_
  · exact ⟨rfl, Nat.zero_le _, hI0, rfl, rfl, rfl, rfl, rfl, rfl, rfl, trivial⟩
  clear hI0 hg6 hE6 hW6 hn6
  clear h6
  rintro k m ds h1 ⟨rfl, hk, hC, hgo, hall⟩
  refine Wc_wf fun hw1 => ?_
  refine Wc.le ?_ (Le.kn hall)
  refine zy ?_
  refine Wo_dec rfl rfl rfl rfl (A_lss rfl rfl) (fun h6 => ?_) (fun h6 => ?_)
  · have hk' : k < l.length := by simpa using h6
    have hdr : l.drop k = l[k] :: l.drop (k + 1) := List.drop_eq_getElem_cons hk'
    have htk : l.take (k + 1) = l.take k ++ [l[k]] := by rw [List.take_add_one, List.getElem?_eq_getElem hk']; rfl
    rw [hdr, goNm] at hgo
    have hxm := List.getElem_mem hk'
    obtain ⟨b, o, oa, rfl, row, hrow, hma⟩ := hI k hk'
    have hxN := hN _ hxm
    generalize hmk : l[k] = x at *
    have hma0 := hma
    obtain rfl := hma
    have hrow1 := hC.ext.row hrow
    refine zy ?_
    refine Wo_do rfl rfl rfl rfl (A_ix Und.h Tsz.h rfl rfl) ?_
    refine zy ?_
    refine Wo_alloc rfl rfl Zr.h fun h2 hE2 hW2 hg2 hn2 => ?_
    refine zy ?_
    refine Wo_store rfl Tsz.h rfl rfl hg2 rfl rfl rfl fun h3 hU3 => ?_
    have hbmn : bm ≠ h1.nx := by
      obtain ⟨l, ⟨es, c, e1, _⟩, _⟩ := hC.mp
      have := hw1 _ _ e1; omega
    have hC3 := (hC.grow hE2).upd hU3 hw hC.ext.2.1 hbmn
    have hg7 := hU3.at'
    generalize h1.nx = b7 at *
    clear hU3
    refine zy ?_
    refine Wo_callE rfl rfl rfl rfl rfl hb1 rfl rfl (hp1 h3 hC3.ext _ _ hxm (rfl)) fun h4 hE4 => ?_
    replace hC3 := hC3.grow hE4
    replace hg7 := hE4.get hg7
    refine zy ?_
    refine Wo_callB rfl rfl rfl rfl rfl Bod.h rfl rfl (filmName_sv _ _ hxN) (fun h8 h9 hE9 => ?_) (fun h8 h9 hE9 => ?_)
    rotate_left
    · refine zy ?_
      refine Wc_ret (Lv_ret rfl ⟨?_, (hC3.grow hE9).ext⟩)
      rw [name_eq] at h8
      have hne : nameErr (ScV.name x) ((l.take k).map ScV.name) = 6 := by simp [nameErr, h8]
      rw [show nameErr (ScV.name x) ((l.take k).map ScV.name) = 6 from hne, if_pos (by decide)] at hgo
      rw [hgo]; rfl
    rw [name_eq] at h8
    replace hC3 := hC3.grow hE9
    replace hg7 := hE9.get hg7
    obtain ⟨l', mp1, mp2⟩ := hC3.mp
    refine zy ?_
    refine Wo_do rfl rfl rfl rfl (A_lookup strK Und.h Zr.h rfl mp1 (k := ScV.name x) rfl) ?_
    rw [mp2]
    by_cases hin : ScV.name x ∈ (l.take k).map ScV.name
    · rw [if_pos hin]
      refine zy ?_
      refine Wc_ret (Lv_ret rfl ⟨?_, hC3.ext⟩)
      have hne : nameErr (ScV.name x) ((l.take k).map ScV.name) = 5 := by rw [nameErr, if_neg (by rw [h8]; simp), if_pos hin]
      rw [show nameErr (ScV.name x) ((l.take k).map ScV.name) = 5 from hne, if_pos (by decide)] at hgo
      rw [hgo]; rfl
    rw [if_neg hin]
    have hne : nameErr (ScV.name x) ((l.take k).map ScV.name) = 0 := by rw [nameErr, if_neg (by rw [h8]; simp), if_neg hin]
    rw [show nameErr (ScV.name x) ((l.take k).map ScV.name) = 0 from hne, if_neg (by decide)] at hgo
    refine zy ?_
    refine Wo_callE rfl rfl rfl rfl rfl hb2 rfl rfl (hp2 _ hC3.ext _ _ hxm (rfl)) fun h12 hE12 => ?_
    refine zy ?_
    refine Wo_dec rfl rfl rfl rfl (A_neq rfl rfl) (fun h10 => ?_) (fun h10 => ?_)
    · refine zy ?_
      refine Wc_ret (Lv_ret rfl ⟨?_, (hC3.grow hE12).ext⟩)
      rw [if_pos h10] at hgo
      rw [hgo]; rfl
    rw [if_neg h10] at hgo
    replace hC3 := hC3.grow hE12
    obtain ⟨l', mp1, mp2⟩ := hC3.mp
    refine zy ?_
    refine Wo_mapUpdate strK rfl Und.h rfl mp1 (k := ScV.name x) rfl rfl fun h13 o13 hU13 hM13 => ?_
    refine zy ?_
    refine ⟨k + 1, ?_, rfl, hk', ?_, ?_, rfl, rfl, rfl, rfl, rfl, rfl, trivial⟩
    · show l.length - (k + 1) < l.length - k; omega
    · rw [htk, List.map_append]
      refine ⟨hU13.ext hC3.ext hw hC3.lt, ⟨_, hM13, ?_⟩, hC3.lt⟩
      exact fun x => setMem mp2 x
    · rw [htk, List.map_append]; exact hgo
  have hgN : goNm ScV.name wrong 0 [] l = none := by
    have hk2 : k = l.length := by omega
    rw [hgo, hk2, List.drop_length]; rfl
  refine zy ?_
  exact Wc_ret (Lv_ret rfl ⟨by rw [hgN]; rfl, hC.ext⟩)
theorem namedP_sv {a : Option Addr} {cap : Nat} {l : List ScP} {wrong : ScP -> Int} {h : Heap} {g1 g2 : FuncId} {f2 : List Value} (hI : RowsAt 7 ScPR h a l) (hlen : Len l) (hN : ∀ x ∈ l, Len (ScP.name x)) (hb1 : bodied Tryz.prog g1 = true) (hb2 : bodied Tryz.prog g2 = true)
    (hp1 : (∀ h1, Ext h h1 -> ∀ row x, x ∈ l -> ScPR h1 row x -> Sv Tryz.prog g1 ([] ++ ([.agg ⟨row⟩] ++ [])) h1 (RetP fun v h' => v = str (ScP.name x) /\ Ext h1 h')))
    (hp2 : (∀ h1, Ext h h1 -> ∀ row x, x ∈ l -> ScPR h1 row x -> Sv Tryz.prog g2 (f2 ++ ([.agg ⟨row⟩] ++ [])) h1 (RetP fun v h' => v = i64 (wrong x) /\ Ext h1 h'))) :
    Sv Tryz.prog 65 [.slice a l.length cap, .func (.func g1) ⟨[]⟩ ⟨[]⟩, .func (.func g2) ⟨f2⟩ ⟨[]⟩] h (RetP fun v h' => v = tupO (goNm ScP.name wrong 0 [] l) /\ Ext h h') := by
  refine Sv_wf fun hw => ?_
  refine Sv_enter Tryz.func65 rfl (by rw [Tryz.ntmps65]; rfl) ?_; show Wc Tryz.prog ⟨65, 44, none⟩ _ _ _ _ _
  refine zy ?_
  refine Wo_mkMap rfl rfl fun h6 hE6 hW6 hg6 hn6 => ?_
  have hI0 : NmI h h6 h.nx [] := ⟨hE6, ⟨[], MapAt.new _ hg6, fun _ => rfl⟩, Nat.le_refl _⟩
  generalize hbm : h.nx = bm at *
  refine zy ?_
  refine Wc_loop (fun (k : Nat) m ds h' => ds = [] /\ k <= l.length /\ NmI h h' bm ((l.take k).map ScP.name) /\ goNm ScP.name wrong 0 [] l = goNm ScP.name wrong k ((l.take k).map ScP.name) (l.drop k) ∧
      AllK m [(1, .func (.func g1) ⟨[]⟩ ⟨[]⟩), (2, .func (.func g2) ⟨f2⟩ ⟨[]⟩), (8, .map (some bm)), (14, .slice a l.length cap), (15, i64 l.length), (16, i64 k)]) (fun k => l.length - k) 0 ?_ ?_
  · exact ⟨rfl, Nat.zero_le _, hI0, rfl, rfl, rfl, rfl, rfl, rfl, rfl, trivial⟩
  clear hI0 hg6 hE6 hW6 hn6
  clear h6
  rintro k m ds h1 ⟨rfl, hk, hC, hgo, hall⟩
  refine Wc_wf fun hw1 => ?_
  refine Wc.le ?_ (Le.kn hall)
  refine zy ?_
  refine Wo_dec rfl rfl rfl rfl (A_lss rfl rfl) (fun h6 => ?_) (fun h6 => ?_)
  · have hk' : k < l.length := by simpa using h6
    have hdr : l.drop k = l[k] :: l.drop (k + 1) := List.drop_eq_getElem_cons hk'
    have htk : l.take (k + 1) = l.take k ++ [l[k]] := by rw [List.take_add_one, List.getElem?_eq_getElem hk']; rfl
    rw [hdr, goNm] at hgo
    have hxm := List.getElem_mem hk'
    obtain ⟨b, o, oa, rfl, row, hrow, hma⟩ := hI k hk'
    have hxN := hN _ hxm
    generalize hmk : l[k] = x at *
    have hma0 := hma
    obtain ⟨ap, cp, rfl, hpl⟩ := hma
    have hrow1 := hC.ext.row hrow
    refine zy ?_
    refine Wo_do rfl rfl rfl rfl (A_ix Und.h Tsz.h rfl rfl) ?_
    refine zy ?_
    refine Wo_alloc rfl rfl Zr.h fun h2 hE2 hW2 hg2 hn2 => ?_
    refine zy ?_
    refine Wo_store rfl Tsz.h rfl rfl hg2 rfl rfl rfl fun h3 hU3 => ?_
    have hbmn : bm ≠ h1.nx := by
      obtain ⟨l, ⟨es, c, e1, _⟩, _⟩ := hC.mp
      have := hw1 _ _ e1; omega
    have hC3 := (hC.grow hE2).upd hU3 hw hC.ext.2.1 hbmn
    have hg7 := hU3.at'
    generalize h1.nx = b7 at *
    clear hU3
    refine zy ?_
    refine Wo_callE rfl rfl rfl rfl rfl hb1 rfl rfl (hp1 h3 hC3.ext _ _ hxm (hma0.ext hC3.ext)) fun h4 hE4 => ?_
    replace hC3 := hC3.grow hE4
    replace hg7 := hE4.get hg7
    refine zy ?_
    refine Wo_callB rfl rfl rfl rfl rfl Bod.h rfl rfl (filmName_sv _ _ hxN) (fun h8 h9 hE9 => ?_) (fun h8 h9 hE9 => ?_)
    rotate_left
    · refine zy ?_
      refine Wc_ret (Lv_ret rfl ⟨?_, (hC3.grow hE9).ext⟩)
      rw [name_eq] at h8
      have hne : nameErr (ScP.name x) ((l.take k).map ScP.name) = 6 := by simp [nameErr, h8]
      rw [show nameErr (ScP.name x) ((l.take k).map ScP.name) = 6 from hne, if_pos (by decide)] at hgo
      rw [hgo]; rfl
    rw [name_eq] at h8
    replace hC3 := hC3.grow hE9
    replace hg7 := hE9.get hg7
    obtain ⟨l', mp1, mp2⟩ := hC3.mp
    refine zy ?_
    refine Wo_do rfl rfl rfl rfl (A_lookup strK Und.h Zr.h rfl mp1 (k := ScP.name x) rfl) ?_
    rw [mp2]
    by_cases hin : ScP.name x ∈ (l.take k).map ScP.name
    · rw [if_pos hin]
      refine zy ?_
      refine Wc_ret (Lv_ret rfl ⟨?_, hC3.ext⟩)
      have hne : nameErr (ScP.name x) ((l.take k).map ScP.name) = 5 := by rw [nameErr, if_neg (by rw [h8]; simp), if_pos hin]
      rw [show nameErr (ScP.name x) ((l.take k).map ScP.name) = 5 from hne, if_pos (by decide)] at hgo
      rw [hgo]; rfl
    rw [if_neg hin]
    have hne : nameErr (ScP.name x) ((l.take k).map ScP.name) = 0 := by rw [nameErr, if_neg (by rw [h8]; simp), if_neg hin]
    rw [show nameErr (ScP.name x) ((l.take k).map ScP.name) = 0 from hne, if_neg (by decide)] at hgo
    refine zy ?_
    refine Wo_callE rfl rfl rfl rfl rfl hb2 rfl rfl (hp2 _ hC3.ext _ _ hxm (hma0.ext hC3.ext)) fun h12 hE12 => ?_
    refine zy ?_
    refine Wo_dec rfl rfl rfl rfl (A_neq rfl rfl) (fun h10 => ?_) (fun h10 => ?_)
    · refine zy ?_
      refine Wc_ret (Lv_ret rfl ⟨?_, (hC3.grow hE12).ext⟩)
      rw [if_pos h10] at hgo
      rw [hgo]; rfl
    rw [if_neg h10] at hgo
    replace hC3 := hC3.grow hE12
    obtain ⟨l', mp1, mp2⟩ := hC3.mp
    refine zy ?_
    refine Wo_mapUpdate strK rfl Und.h rfl mp1 (k := ScP.name x) rfl rfl fun h13 o13 hU13 hM13 => ?_
    refine zy ?_
    refine ⟨k + 1, ?_, rfl, hk', ?_, ?_, rfl, rfl, rfl, rfl, rfl, rfl, trivial⟩
    · show l.length - (k + 1) < l.length - k; omega
    · rw [htk, List.map_append]
      refine ⟨hU13.ext hC3.ext hw hC3.lt, ⟨_, hM13, ?_⟩, hC3.lt⟩
      exact fun x => setMem mp2 x
    · rw [htk, List.map_append]; exact hgo
  have hgN : goNm ScP.name wrong 0 [] l = none := by
    have hk2 : k = l.length := by omega
    rw [hgo, hk2, List.drop_length]; rfl
  refine zy ?_
  exact Wc_ret (Lv_ret rfl ⟨by rw [hgN]; rfl, hC.ext⟩)
theorem namedK_sv {a : Option Addr} {cap : Nat} {l : List ScPk} {wrong : ScPk -> Int} {h : Heap} {g1 g2 : FuncId} {f2 : List Value} (hI : RowsAt 5 ScPkR h a l) (hlen : Len l) (hN : ∀ x ∈ l, Len (ScPk.name x)) (hb1 : bodied Tryz.prog g1 = true) (hb2 : bodied Tryz.prog g2 = true)
    (hp1 : (∀ h1, Ext h h1 -> ∀ row x, x ∈ l -> ScPkR h1 row x -> Sv Tryz.prog g1 ([] ++ ([.agg ⟨row⟩] ++ [])) h1 (RetP fun v h' => v = str (ScPk.name x) /\ Ext h1 h')))
    (hp2 : (∀ h1, Ext h h1 -> ∀ row x, x ∈ l -> ScPkR h1 row x -> Sv Tryz.prog g2 (f2 ++ ([.agg ⟨row⟩] ++ [])) h1 (RetP fun v h' => v = i64 (wrong x) /\ Ext h1 h'))) :
    Sv Tryz.prog 68 [.slice a l.length cap, .func (.func g1) ⟨[]⟩ ⟨[]⟩, .func (.func g2) ⟨f2⟩ ⟨[]⟩] h (RetP fun v h' => v = tupO (goNm ScPk.name wrong 0 [] l) /\ Ext h h') := by
  refine Sv_wf fun hw => ?_
  refine Sv_enter Tryz.func68 rfl (by rw [Tryz.ntmps68]; rfl) ?_; show Wc Tryz.prog ⟨68, 44, none⟩ _ _ _ _ _
  refine zy ?_
  refine Wo_mkMap rfl rfl fun h6 hE6 hW6 hg6 hn6 => ?_
  have hI0 : NmI h h6 h.nx [] := ⟨hE6, ⟨[], MapAt.new _ hg6, fun _ => rfl⟩, Nat.le_refl _⟩
  generalize hbm : h.nx = bm at *
  refine zy ?_
  refine Wc_loop (fun (k : Nat) m ds h' => ds = [] /\ k <= l.length /\ NmI h h' bm ((l.take k).map ScPk.name) /\ goNm ScPk.name wrong 0 [] l = goNm ScPk.name wrong k ((l.take k).map ScPk.name) (l.drop k) ∧
      AllK m [(1, .func (.func g1) ⟨[]⟩ ⟨[]⟩), (2, .func (.func g2) ⟨f2⟩ ⟨[]⟩), (8, .map (some bm)), (14, .slice a l.length cap), (15, i64 l.length), (16, i64 k)]) (fun k => l.length - k) 0 ?_ ?_
  · exact ⟨rfl, Nat.zero_le _, hI0, rfl, rfl, rfl, rfl, rfl, rfl, rfl, trivial⟩
  clear hI0 hg6 hE6 hW6 hn6
  clear h6
  rintro k m ds h1 ⟨rfl, hk, hC, hgo, hall⟩
  refine Wc_wf fun hw1 => ?_
  refine Wc.le ?_ (Le.kn hall)
  refine zy ?_
  refine Wo_dec rfl rfl rfl rfl (A_lss rfl rfl) (fun h6 => ?_) (fun h6 => ?_)
  · have hk' : k < l.length := by simpa using h6
    have hdr : l.drop k = l[k] :: l.drop (k + 1) := List.drop_eq_getElem_cons hk'
    have htk : l.take (k + 1) = l.take k ++ [l[k]] := by rw [List.take_add_one, List.getElem?_eq_getElem hk']; rfl
    rw [hdr, goNm] at hgo
    have hxm := List.getElem_mem hk'
    obtain ⟨b, o, oa, rfl, row, hrow, hma⟩ := hI k hk'
    have hxN := hN _ hxm
    generalize hmk : l[k] = x at *
    have hma0 := hma
    obtain rfl := hma
    have hrow1 := hC.ext.row hrow
    refine zy ?_
    refine Wo_do rfl rfl rfl rfl (A_ix Und.h Tsz.h rfl rfl) ?_
    refine zy ?_
    refine Wo_alloc rfl rfl Zr.h fun h2 hE2 hW2 hg2 hn2 => ?_
    refine zy ?_
    refine Wo_store rfl Tsz.h rfl rfl hg2 rfl rfl rfl fun h3 hU3 => ?_
    have hbmn : bm ≠ h1.nx := by
      obtain ⟨l, ⟨es, c, e1, _⟩, _⟩ := hC.mp
      have := hw1 _ _ e1; omega
    have hC3 := (hC.grow hE2).upd hU3 hw hC.ext.2.1 hbmn
    have hg7 := hU3.at'
    generalize h1.nx = b7 at *
    clear hU3
    refine zy ?_
    refine Wo_callE rfl rfl rfl rfl rfl hb1 rfl rfl (hp1 h3 hC3.ext _ _ hxm (rfl)) fun h4 hE4 => ?_
    replace hC3 := hC3.grow hE4
    replace hg7 := hE4.get hg7
    refine zy ?_
    refine Wo_callB rfl rfl rfl rfl rfl Bod.h rfl rfl (filmName_sv _ _ hxN) (fun h8 h9 hE9 => ?_) (fun h8 h9 hE9 => ?_)
    rotate_left
    · refine zy ?_
      refine Wc_ret (Lv_ret rfl ⟨?_, (hC3.grow hE9).ext⟩)
      rw [name_eq] at h8
      have hne : nameErr (ScPk.name x) ((l.take k).map ScPk.name) = 6 := by simp [nameErr, h8]
      rw [show nameErr (ScPk.name x) ((l.take k).map ScPk.name) = 6 from hne, if_pos (by decide)] at hgo
      rw [hgo]; rfl
    rw [name_eq] at h8
    replace hC3 := hC3.grow hE9
    replace hg7 := hE9.get hg7
    obtain ⟨l', mp1, mp2⟩ := hC3.mp
    refine zy ?_
    refine Wo_do rfl rfl rfl rfl (A_lookup strK Und.h Zr.h rfl mp1 (k := ScPk.name x) rfl) ?_
    rw [mp2]
    by_cases hin : ScPk.name x ∈ (l.take k).map ScPk.name
    · rw [if_pos hin]
      refine zy ?_
      refine Wc_ret (Lv_ret rfl ⟨?_, hC3.ext⟩)
      have hne : nameErr (ScPk.name x) ((l.take k).map ScPk.name) = 5 := by rw [nameErr, if_neg (by rw [h8]; simp), if_pos hin]
      rw [show nameErr (ScPk.name x) ((l.take k).map ScPk.name) = 5 from hne, if_pos (by decide)] at hgo
      rw [hgo]; rfl
    rw [if_neg hin]
    have hne : nameErr (ScPk.name x) ((l.take k).map ScPk.name) = 0 := by rw [nameErr, if_neg (by rw [h8]; simp), if_neg hin]
    rw [show nameErr (ScPk.name x) ((l.take k).map ScPk.name) = 0 from hne, if_neg (by decide)] at hgo
    refine zy ?_
    refine Wo_callE rfl rfl rfl rfl rfl hb2 rfl rfl (hp2 _ hC3.ext _ _ hxm (rfl)) fun h12 hE12 => ?_
    refine zy ?_
    refine Wo_dec rfl rfl rfl rfl (A_neq rfl rfl) (fun h10 => ?_) (fun h10 => ?_)
    · refine zy ?_
      refine Wc_ret (Lv_ret rfl ⟨?_, (hC3.grow hE12).ext⟩)
      rw [if_pos h10] at hgo
      rw [hgo]; rfl
    rw [if_neg h10] at hgo
    replace hC3 := hC3.grow hE12
    obtain ⟨l', mp1, mp2⟩ := hC3.mp
    refine zy ?_
    refine Wo_mapUpdate strK rfl Und.h rfl mp1 (k := ScPk.name x) rfl rfl fun h13 o13 hU13 hM13 => ?_
    refine zy ?_
    refine ⟨k + 1, ?_, rfl, hk', ?_, ?_, rfl, rfl, rfl, rfl, rfl, rfl, trivial⟩
    · show l.length - (k + 1) < l.length - k; omega
    · rw [htk, List.map_append]
      refine ⟨hU13.ext hC3.ext hw hC3.lt, ⟨_, hM13, ?_⟩, hC3.lt⟩
      exact fun x => setMem mp2 x
    · rw [htk, List.map_append]; exact hgo
  have hgN : goNm ScPk.name wrong 0 [] l = none := by
    have hk2 : k = l.length := by omega
    rw [hgo, hk2, List.drop_length]; rfl
  refine zy ?_
  exact Wc_ret (Lv_ret rfl ⟨by rw [hgN]; rfl, hC.ext⟩)
theorem eachR_sv {a : Option Addr} {cap : Nat} {l : List ScR} {wrong : ScR -> Int} {h : Heap} {g2 : FuncId} {f2 : List Value} (hI : RowsAt 5 ScRR h a l) (hlen : Len l) (hb2 : bodied Tryz.prog g2 = true)
    (hp2 : ∀ h1, Ext h h1 -> ∀ row x, x ∈ l -> ScRR h1 row x -> Sv Tryz.prog g2 (f2 ++ ([.agg ⟨row⟩] ++ [])) h1 (RetP fun v h' => v = i64 (wrong x) /\ Ext h1 h')) :
    Sv Tryz.prog 63 [.slice a l.length cap, .func (.func g2) ⟨f2⟩ ⟨[]⟩] h (RetP fun v h' => v = tupO (goEa wrong 0 l) /\ Ext h h') := by
  refine Sv_wf fun hw => ?_
  refine Sv_enter Tryz.func63 rfl (by rw [Tryz.ntmps63]; rfl) ?_; show Wc Tryz.prog ⟨63, 24, none⟩ _ _ _ _ _
  refine zy ?_
  refine Wc_loop (fun (k : Nat) m ds h' => ds = [] /\ k <= l.length /\ Ext h h' /\ goEa wrong 0 l = goEa wrong k (l.drop k) ∧
      AllK m [(1, .func (.func g2) ⟨f2⟩ ⟨[]⟩), (9, .slice a l.length cap), (10, i64 l.length), (11, i64 k)]) (fun k => l.length - k) 0 ?_ ?_
  · exact ⟨rfl, Nat.zero_le _, Ext.refl _, rfl, rfl, rfl, rfl, rfl, trivial⟩
  rintro k m ds h1 ⟨rfl, hk, hC, hgo, hall⟩
  refine Wc.le ?_ (Le.kn hall)
  refine zy ?_
  refine Wo_dec rfl rfl rfl rfl (A_lss rfl rfl) (fun h6 => ?_) (fun h6 => ?_)
  · have hk' : k < l.length := by simpa using h6
    have hdr : l.drop k = l[k] :: l.drop (k + 1) := List.drop_eq_getElem_cons hk'
    rw [hdr, goEa] at hgo
    have hxm := List.getElem_mem hk'
    obtain ⟨b, o, oa, rfl, row, hrow, hma⟩ := hI k hk'
    generalize hmk : l[k] = x at *
    obtain rfl := hma
    have hrow1 := hC.row hrow
    refine zy ?_
    refine Wo_do rfl rfl rfl rfl (A_ix Und.h Tsz.h rfl rfl) ?_
    refine zy ?_
    refine Wo_alloc rfl rfl Zr.h fun h2 hE2 hW2 hg2 hn2 => ?_
    refine zy ?_
    refine Wo_store rfl Tsz.h rfl rfl hg2 rfl rfl rfl fun h3 hU3 => ?_
    have hC3 := hU3.ext (hC.trans hE2) hw hC.2.1
    have hg7 := hU3.at'
    generalize h1.nx = b7 at *
    clear hU3
    refine zy ?_
    refine Wo_callE rfl rfl rfl rfl rfl hb2 rfl rfl (hp2 _ hC3 _ _ hxm (rfl)) fun h12 hE12 => ?_
    refine zy ?_
    refine Wo_dec rfl rfl rfl rfl (A_neq rfl rfl) (fun h10 => ?_) (fun h10 => ?_)
    · refine zy ?_
      refine Wc_ret (Lv_ret rfl ⟨?_, hC3.trans hE12⟩)
      rw [if_pos h10] at hgo
      rw [hgo]; rfl
    rw [if_neg h10] at hgo
    refine zy ?_
    refine ⟨k + 1, ?_, rfl, hk', hC3.trans hE12, hgo, rfl, rfl, rfl, rfl, trivial⟩
    show l.length - (k + 1) < l.length - k; omega
  have hgN : goEa wrong 0 l = none := by
    have hk2 : k = l.length := by omega
    rw [hgo, hk2, List.drop_length]; rfl
  refine zy ?_
  exact Wc_ret (Lv_ret rfl ⟨by rw [hgN]; rfl, hC⟩)
theorem eachK_sv {a : Option Addr} {cap : Nat} {l : List ScK} {wrong : ScK -> Int} {h : Heap} {g2 : FuncId} {f2 : List Value} (hI : RowsAt 4 ScKR h a l) (hlen : Len l) (hb2 : bodied Tryz.prog g2 = true)
    (hp2 : ∀ h1, Ext h h1 -> ∀ row x, x ∈ l -> ScKR h1 row x -> Sv Tryz.prog g2 (f2 ++ ([.agg ⟨row⟩] ++ [])) h1 (RetP fun v h' => v = i64 (wrong x) /\ Ext h1 h')) :
    Sv Tryz.prog 71 [.slice a l.length cap, .func (.func g2) ⟨f2⟩ ⟨[]⟩] h (RetP fun v h' => v = tupO (goEa wrong 0 l) /\ Ext h h') := by
  refine Sv_wf fun hw => ?_
  refine Sv_enter Tryz.func71 rfl (by rw [Tryz.ntmps71]; rfl) ?_; show Wc Tryz.prog ⟨71, 24, none⟩ _ _ _ _ _
  refine zy ?_
  refine Wc_loop (fun (k : Nat) m ds h' => ds = [] /\ k <= l.length /\ Ext h h' /\ goEa wrong 0 l = goEa wrong k (l.drop k) ∧
      AllK m [(1, .func (.func g2) ⟨f2⟩ ⟨[]⟩), (9, .slice a l.length cap), (10, i64 l.length), (11, i64 k)]) (fun k => l.length - k) 0 ?_ ?_
  · exact ⟨rfl, Nat.zero_le _, Ext.refl _, rfl, rfl, rfl, rfl, rfl, trivial⟩
  rintro k m ds h1 ⟨rfl, hk, hC, hgo, hall⟩
  refine Wc.le ?_ (Le.kn hall)
  refine zy ?_
  refine Wo_dec rfl rfl rfl rfl (A_lss rfl rfl) (fun h6 => ?_) (fun h6 => ?_)
  · have hk' : k < l.length := by simpa using h6
    have hdr : l.drop k = l[k] :: l.drop (k + 1) := List.drop_eq_getElem_cons hk'
    rw [hdr, goEa] at hgo
    have hxm := List.getElem_mem hk'
    obtain ⟨b, o, oa, rfl, row, hrow, hma⟩ := hI k hk'
    generalize hmk : l[k] = x at *
    obtain rfl := hma
    have hrow1 := hC.row hrow
    refine zy ?_
    refine Wo_do rfl rfl rfl rfl (A_ix Und.h Tsz.h rfl rfl) ?_
    refine zy ?_
    refine Wo_alloc rfl rfl Zr.h fun h2 hE2 hW2 hg2 hn2 => ?_
    refine zy ?_
    refine Wo_store rfl Tsz.h rfl rfl hg2 rfl rfl rfl fun h3 hU3 => ?_
    have hC3 := hU3.ext (hC.trans hE2) hw hC.2.1
    have hg7 := hU3.at'
    generalize h1.nx = b7 at *
    clear hU3
    refine zy ?_
    refine Wo_callE rfl rfl rfl rfl rfl hb2 rfl rfl (hp2 _ hC3 _ _ hxm (rfl)) fun h12 hE12 => ?_
    refine zy ?_
    refine Wo_dec rfl rfl rfl rfl (A_neq rfl rfl) (fun h10 => ?_) (fun h10 => ?_)
    · refine zy ?_
      refine Wc_ret (Lv_ret rfl ⟨?_, hC3.trans hE12⟩)
      rw [if_pos h10] at hgo
      rw [hgo]; rfl
    rw [if_neg h10] at hgo
    refine zy ?_
    refine ⟨k + 1, ?_, rfl, hk', hC3.trans hE12, hgo, rfl, rfl, rfl, rfl, trivial⟩
    show l.length - (k + 1) < l.length - k; omega
  have hgN : goEa wrong 0 l = none := by
    have hk2 : k = l.length := by omega
    rw [hgo, hk2, List.drop_length]; rfl
  refine zy ?_
  exact Wc_ret (Lv_ret rfl ⟨by rw [hgN]; rfl, hC⟩)
theorem eachL_sv {a : Option Addr} {cap : Nat} {l : List ScL} {wrong : ScL -> Int} {h : Heap} {g2 : FuncId} {f2 : List Value} (hI : RowsAt 4 ScLR h a l) (hlen : Len l) (hb2 : bodied Tryz.prog g2 = true)
    (hp2 : ∀ h1, Ext h h1 -> ∀ row x, x ∈ l -> ScLR h1 row x -> Sv Tryz.prog g2 (f2 ++ ([.agg ⟨row⟩] ++ [])) h1 (RetP fun v h' => v = i64 (wrong x) /\ Ext h1 h')) :
    Sv Tryz.prog 73 [.slice a l.length cap, .func (.func g2) ⟨f2⟩ ⟨[]⟩] h (RetP fun v h' => v = tupO (goEa wrong 0 l) /\ Ext h h') := by
  refine Sv_wf fun hw => ?_
  refine Sv_enter Tryz.func73 rfl (by rw [Tryz.ntmps73]; rfl) ?_; show Wc Tryz.prog ⟨73, 24, none⟩ _ _ _ _ _
  refine zy ?_
  refine Wc_loop (fun (k : Nat) m ds h' => ds = [] /\ k <= l.length /\ Ext h h' /\ goEa wrong 0 l = goEa wrong k (l.drop k) ∧
      AllK m [(1, .func (.func g2) ⟨f2⟩ ⟨[]⟩), (9, .slice a l.length cap), (10, i64 l.length), (11, i64 k)]) (fun k => l.length - k) 0 ?_ ?_
  · exact ⟨rfl, Nat.zero_le _, Ext.refl _, rfl, rfl, rfl, rfl, rfl, trivial⟩
  rintro k m ds h1 ⟨rfl, hk, hC, hgo, hall⟩
  refine Wc.le ?_ (Le.kn hall)
  refine zy ?_
  refine Wo_dec rfl rfl rfl rfl (A_lss rfl rfl) (fun h6 => ?_) (fun h6 => ?_)
  · have hk' : k < l.length := by simpa using h6
    have hdr : l.drop k = l[k] :: l.drop (k + 1) := List.drop_eq_getElem_cons hk'
    rw [hdr, goEa] at hgo
    have hxm := List.getElem_mem hk'
    obtain ⟨b, o, oa, rfl, row, hrow, hma⟩ := hI k hk'
    generalize hmk : l[k] = x at *
    obtain rfl := hma
    have hrow1 := hC.row hrow
    refine zy ?_
    refine Wo_do rfl rfl rfl rfl (A_ix Und.h Tsz.h rfl rfl) ?_
    refine zy ?_
    refine Wo_alloc rfl rfl Zr.h fun h2 hE2 hW2 hg2 hn2 => ?_
    refine zy ?_
    refine Wo_store rfl Tsz.h rfl rfl hg2 rfl rfl rfl fun h3 hU3 => ?_
    have hC3 := hU3.ext (hC.trans hE2) hw hC.2.1
    have hg7 := hU3.at'
    generalize h1.nx = b7 at *
    clear hU3
    refine zy ?_
    refine Wo_callE rfl rfl rfl rfl rfl hb2 rfl rfl (hp2 _ hC3 _ _ hxm (rfl)) fun h12 hE12 => ?_
    refine zy ?_
    refine Wo_dec rfl rfl rfl rfl (A_neq rfl rfl) (fun h10 => ?_) (fun h10 => ?_)
    · refine zy ?_
      refine Wc_ret (Lv_ret rfl ⟨?_, hC3.trans hE12⟩)
      rw [if_pos h10] at hgo
      rw [hgo]; rfl
    rw [if_neg h10] at hgo
    refine zy ?_
    refine ⟨k + 1, ?_, rfl, hk', hC3.trans hE12, hgo, rfl, rfl, rfl, rfl, trivial⟩
    show l.length - (k + 1) < l.length - k; omega
  have hgN : goEa wrong 0 l = none := by
    have hk2 : k = l.length := by omega
    rw [hgo, hk2, List.drop_length]; rfl
  refine zy ?_
  exact Wc_ret (Lv_ret rfl ⟨by rw [hgN]; rfl, hC⟩)
end Go.Dw
/- G2: contracts: the parts of a task, package screen. -/
namespace Go.Dw
open Go Go.Dx Go.Proofs
set_option maxRecDepth 100000
theorem scOdd_sv (s : Sp) (lo hi : Int) (h : Heap) : Sv Tryz.prog 135 [.agg ⟨[i64 s.lo, i64 s.hi]⟩, i64 lo, i64 hi] h (RetP fun v h' => v = i64 (oddS s lo hi) /\ Ext h h') := by
  refine Sv_wf fun hw => ?_
  refine Sv_enter Tryz.func135 rfl (by rw [Tryz.ntmps135]; rfl) ?_; show Wc Tryz.prog ⟨135, 26, none⟩ _ _ _ _ _
  refine zy ?_
  refine Wo_box rfl rfl rfl fun h1 hE1 hW1 hg1 hn1 => ?_
  generalize h.nx = b1 at *
  refine zy ?_
  refine Wo_callP rfl rfl rfl rfl rfl Bod.h rfl rfl (out_sv _ _ _ _) (fun h2 => ?_) (fun h2 => ?_)
  · refine zy ?_
    exact Wc_ret (Lv_ret rfl ⟨by rw [oddS, if_pos (.inl (of_decide_eq_true h2))]; rfl, hE1⟩)
  refine zy ?_
  refine Wo_callP rfl rfl rfl rfl rfl Bod.h rfl rfl (out_sv _ _ _ _) (fun h3 => ?_) (fun h3 => ?_)
  · refine zy ?_
    exact Wc_ret (Lv_ret rfl ⟨by rw [oddS, if_pos (.inr (of_decide_eq_true h3))]; rfl, hE1⟩)
  have hn : ¬ ((s.lo < lo \/ hi < s.lo) \/ (s.hi < lo \/ hi < s.hi)) := fun x => x.elim (of_decide_eq_false h2) (of_decide_eq_false h3)
  refine zy ?_
  refine Wo_dec rfl rfl rfl rfl (A_gtr rfl rfl) (fun h4 => ?_) (fun h4 => ?_)
  · refine zy ?_
    exact Wc_ret (Lv_ret rfl ⟨by rw [oddS, if_neg hn, if_pos h4]; rfl, hE1⟩)
  refine zy ?_
  exact Wc_ret (Lv_ret rfl ⟨by rw [oddS, if_neg hn, if_neg h4]; rfl, hE1⟩)
theorem scAbroad_sv {tc : List Value} {t : ScT} {h : Heap} (ht : ScTAt h tc t) (hL : Len t.lands) (n : Int) : Sv Tryz.prog 134 [.agg ⟨tc⟩, i64 n] h (RetP fun v h' => v = .bool (decide (abroad t n)) /\ Ext h h') := by
  obtain ⟨al, cl, at', ct, a1, c1, a2, c2, a3, c3, a4, c4, a5, c5, a6, c6, rfl, -⟩ := ht
  refine Sv_wf fun hw => ?_
  refine Sv_enter Tryz.func134 rfl (by rw [Tryz.ntmps134]; rfl) ?_; show Wc Tryz.prog ⟨134, 12, none⟩ _ _ _ _ _
  refine zy ?_
  refine Wo_box rfl rfl rfl fun h1 hE1 hW1 hg1 hn1 => ?_
  generalize h.nx = b1 at *
  refine zy ?_
  refine Wo_callV rfl rfl rfl rfl rfl Bod.h rfl rfl (out_sv _ _ _ _) ?_
  refine zy ?_
  exact Wc_ret (Lv_ret rfl ⟨rfl, hE1⟩)
theorem scVenue_sv {tc rc : List Value} {t : ScT} {v : ScV} {h : Heap} (ht : ScTAt h tc t) (hT : t.Fit) (hm : ScVR h rc v) : Sv Tryz.prog 62 [.agg ⟨tc⟩, .agg ⟨rc⟩] h (RetP fun r h' => r = i64 (venueErr t v) /\ Ext h h') := by
  have ht0 := ht
  have hL := hT.lands
  obtain ⟨al, cl, at', ct, a1, c1, a2, c2, a3, c3, a4, c4, a5, c5, a6, c6, rfl, -⟩ := ht
  refine Sv_wf fun hw => ?_
  refine Sv_enter Tryz.func62 rfl (by rw [Tryz.ntmps62]; rfl) ?_; show Wc Tryz.prog ⟨62, 32, none⟩ _ _ _ _ _
  obtain rfl := hm
  refine zy ?_
  refine Wo_box rfl rfl rfl fun h1 hE1 hW1 hg1 hn1 => ?_
  refine Wo_box rfl rfl rfl fun h2 hE2 hW2 hg2 hn2 => ?_
  replace hg1 := hE2.get hg1
  have hE := hE1.trans hE2
  generalize h.nx = b1 at *
  generalize h1.nx = b2 at *
  refine zy ?_
  refine Wo_callB rfl rfl rfl rfl rfl Bod.h rfl rfl (scAbroad_sv (ht0.ext hE) hL _) (fun h3 h4 hE4 => ?_) (fun h3 h4 hE4 => ?_)
  · refine zy ?_
    exact Wc_ret (Lv_ret rfl ⟨by rw [venueErr, if_pos (of_decide_eq_true h3)]; rfl, hE.trans hE4⟩)
  have hA := of_decide_eq_false h3
  replace hg1 := hE4.get hg1
  replace hg2 := hE4.get hg2
  replace hE := hE.trans hE4
  refine zy ?_
  refine Wo_callP rfl rfl rfl rfl rfl Bod.h rfl rfl (out_sv _ _ _ _) (fun h5 => ?_) (fun h5 => ?_)
  · refine zy ?_
    exact Wc_ret (Lv_ret rfl ⟨by rw [venueErr, if_neg hA, if_pos (.inl (of_decide_eq_true h5))]; rfl, hE⟩)
  refine zy ?_
  refine Wo_callP rfl rfl rfl rfl rfl Bod.h rfl rfl (out_sv _ _ _ _) (fun h6 => ?_) (fun h6 => ?_)
  · refine zy ?_
    exact Wc_ret (Lv_ret rfl ⟨by rw [venueErr, if_neg hA, if_pos (.inr (.inl (of_decide_eq_true h6)))]; rfl, hE⟩)
  refine zy ?_
  refine Wo_callP rfl rfl rfl rfl rfl Bod.h rfl rfl (out_sv _ _ _ _) (fun h7 => ?_) (fun h7 => ?_)
  · refine zy ?_
    exact Wc_ret (Lv_ret rfl ⟨by rw [venueErr, if_neg hA, if_pos (.inr (.inr (.inl (of_decide_eq_true h7))))]; rfl, hE⟩)
  refine zy ?_
  refine Wo_callP rfl rfl rfl rfl rfl Bod.h rfl rfl (out_sv _ _ _ _) (fun h8 => ?_) (fun h8 => ?_)
  · refine zy ?_
    exact Wc_ret (Lv_ret rfl ⟨by rw [venueErr, if_neg hA, if_pos (.inr (.inr (.inr (of_decide_eq_true h8))))]; rfl, hE⟩)
  have hB : ¬ ((v.proj < 0 \/ 2 < v.proj) \/ (v.change < 0 \/ 60 < v.change) \/ (v.turn < 0 \/ 60 < v.turn) \/ (v.spool < 1 \/ 200000 < v.spool)) := fun x => x.elim (of_decide_eq_false h5) fun x => x.elim (of_decide_eq_false h6) fun x => x.elim (of_decide_eq_false h7) (of_decide_eq_false h8)
  refine zy ?_
  refine Wo_callE rfl rfl rfl rfl rfl Bod.h rfl rfl (scOdd_sv v.speeds _ _ _) fun h9 hE9 => ?_
  refine zy ?_
  exact Wc_ret (Lv_ret rfl ⟨by rw [venueErr, if_neg hA, if_neg hB]; rfl, hE.trans hE9⟩)
theorem scRight_sv {tc rc : List Value} {t : ScT} {v : ScR} {h : Heap} (ht : ScTAt h tc t) (hT : t.Fit) (hm : ScRR h rc v) (hf : v.Fit) : Sv Tryz.prog 64 [.agg ⟨tc⟩, .agg ⟨rc⟩] h (RetP fun r h' => r = i64 (rightErr t v) /\ Ext h h') := by
  have ht0 := ht
  have hL := hT.lands
  obtain ⟨al, cl, at', ct, a1, c1, a2, c2, a3, c3, a4, c4, a5, c5, a6, c6, rfl, -⟩ := ht
  refine Sv_wf fun hw => ?_
  refine Sv_enter Tryz.func64 rfl (by rw [Tryz.ntmps64]; rfl) ?_; show Wc Tryz.prog ⟨64, 29, none⟩ _ _ _ _ _
  obtain rfl := hm
  have hw1 := hf.work
  have hw2 := hf.version
  refine zy ?_
  refine Wo_box rfl rfl rfl fun h1 hE1 hW1 hg1 hn1 => ?_
  refine Wo_box rfl rfl rfl fun h2 hE2 hW2 hg2 hn2 => ?_
  replace hg1 := hE2.get hg1
  have hE := hE1.trans hE2
  generalize h.nx = b1 at *
  generalize h1.nx = b2 at *
  refine zy ?_
  refine Wo_callB rfl rfl rfl rfl rfl Bod.h rfl rfl (filmName_sv _ _ hw1) (fun h3 h4 hE4 => ?_) (fun h3 h4 hE4 => ?_)
  rotate_left
  · refine zy ?_
    rw [name_eq] at h3
    exact Wc_ret (Lv_ret rfl ⟨by rw [rightErr, if_pos (.inl h3)]; rfl, hE.trans hE4⟩)
  rw [name_eq] at h3
  replace hg1 := hE4.get hg1
  replace hg2 := hE4.get hg2
  replace hE := hE.trans hE4
  clear hE4
  refine zy ?_
  refine Wo_dec rfl rfl rfl rfl (A_neqStr rfl rfl) (fun h5 => ?_) (fun h5 => ?_)
  · refine zy ?_
    refine Wo_callB rfl rfl rfl rfl rfl Bod.h rfl rfl (filmName_sv _ _ hw2) (fun h6 h7 hE7 => ?_) (fun h6 h7 hE7 => ?_)
    rotate_left
    · refine zy ?_
      rw [name_eq] at h6
      exact Wc_ret (Lv_ret rfl ⟨by rw [rightErr, if_pos (.inr ⟨h5, h6⟩)]; rfl, hE.trans hE7⟩)
    rw [name_eq] at h6
    have hA : ¬ (nameR v.work = false \/ (v.version ≠ [] /\ nameR v.version = false)) := by rw [h3, h6]; simp
    replace hg1 := hE7.get hg1
    replace hg2 := hE7.get hg2
    replace hE := hE.trans hE7
    clear hE7
    refine zy ?_
    refine Wo_callB rfl rfl rfl rfl rfl Bod.h rfl rfl (scAbroad_sv (ht0.ext hE) hL _) (fun h7 h8 hE8 => ?_) (fun h7 h8 hE8 => ?_)
    · refine zy ?_
      exact Wc_ret (Lv_ret rfl ⟨by rw [rightErr, if_neg hA, if_pos (of_decide_eq_true h7)]; rfl, hE.trans hE8⟩)
    have hB := of_decide_eq_false h7
    replace hg1 := hE8.get hg1
    replace hg2 := hE8.get hg2
    replace hE := hE.trans hE8
    refine zy ?_
    refine Wo_callE rfl rfl rfl rfl rfl Bod.h rfl rfl (scOdd_sv v.days _ _ _) fun h9 hE9 => ?_
    refine zy ?_
    exact Wc_ret (Lv_ret rfl ⟨by rw [rightErr, if_neg hA, if_neg hB]; rfl, hE.trans hE9⟩)
  · have hA : ¬ (nameR v.work = false \/ (v.version ≠ [] /\ nameR v.version = false)) := by rw [h3]; exact fun x => x.elim (fun x => nomatch x) (fun x => h5 x.1)
    refine zy ?_
    refine Wo_callB rfl rfl rfl rfl rfl Bod.h rfl rfl (scAbroad_sv (ht0.ext hE) hL _) (fun h7 h8 hE8 => ?_) (fun h7 h8 hE8 => ?_)
    · refine zy ?_
      exact Wc_ret (Lv_ret rfl ⟨by rw [rightErr, if_neg hA, if_pos (of_decide_eq_true h7)]; rfl, hE.trans hE8⟩)
    have hB := of_decide_eq_false h7
    replace hg1 := hE8.get hg1
    replace hg2 := hE8.get hg2
    replace hE := hE.trans hE8
    refine zy ?_
    refine Wo_callE rfl rfl rfl rfl rfl Bod.h rfl rfl (scOdd_sv v.days _ _ _) fun h9 hE9 => ?_
    refine zy ?_
    exact Wc_ret (Lv_ret rfl ⟨by rw [rightErr, if_neg hA, if_neg hB]; rfl, hE.trans hE9⟩)
theorem scPrint1_sv (n : Int) (h : Heap) : Sv Tryz.prog 136 [i64 n] h (RetP fun v h' => v = .bool (decide (n < 1 \/ 200000 < n)) /\ h' = h) := by
  refine Sv_enter Tryz.func136 rfl (by rw [Tryz.ntmps136]; rfl) ?_; show Wc Tryz.prog ⟨136, 5, none⟩ _ _ _ _ _
  refine zy ?_
  refine Wo_callV rfl rfl rfl rfl rfl Bod.h rfl rfl (out_sv _ _ _ _) ?_
  refine zy ?_
  exact Wc_ret (Lv_ret rfl ⟨rfl, rfl⟩)
theorem scPrint_sv {tc rc : List Value} {t : ScT} {v : ScP} {h : Heap} (ht : ScTAt h tc t) (hT : t.Fit) (hm : ScPR h rc v) (hf : v.Fit) : Sv Tryz.prog 67 [.agg ⟨tc⟩, .agg ⟨rc⟩] h (RetP fun r h' => r = i64 (printErr t v) /\ Ext h h') := by
  have ht0 := ht
  have hL := hT.lands
  obtain ⟨al, cl, at', ct, a1, c1, a2, c2, a3, c3, a4, c4, a5, c5, a6, c6, rfl, -⟩ := ht
  refine Sv_wf fun hw => ?_
  refine Sv_enter Tryz.func67 rfl (by rw [Tryz.ntmps67]; rfl) ?_; show Wc Tryz.prog ⟨67, 36, none⟩ _ _ _ _ _
  have hm0 := hm
  obtain ⟨ap, cp, rfl, hR⟩ := hm
  have hw1 := hf.work
  have hw2 := hf.version
  have hw3 := hf.reels
  refine zy ?_
  refine Wo_box rfl rfl rfl fun h1 hE1 hW1 hg1 hn1 => ?_
  refine Wo_box rfl rfl rfl fun h2 hE2 hW2 hg2 hn2 => ?_
  replace hg1 := hE2.get hg1
  have hE := hE1.trans hE2
  generalize h.nx = b1 at *
  generalize h1.nx = b2 at *
  refine zy ?_
  refine Wo_callB rfl rfl rfl rfl rfl Bod.h rfl rfl (filmName_sv _ _ hw1) (fun h3 h4 hE4 => ?_) (fun h3 h4 hE4 => ?_)
  rotate_left
  · refine zy ?_
    rw [name_eq] at h3
    exact Wc_ret (Lv_ret rfl ⟨by rw [printErr, if_pos (.inl h3)]; rfl, hE.trans hE4⟩)
  rw [name_eq] at h3
  replace hg1 := hE4.get hg1
  replace hg2 := hE4.get hg2
  replace hE := hE.trans hE4
  clear hE4
  refine zy ?_
  refine Wo_callB rfl rfl rfl rfl rfl Bod.h rfl rfl (filmName_sv _ _ hw2) (fun h5 h6 hE6 => ?_) (fun h5 h6 hE6 => ?_)
  rotate_left
  · refine zy ?_
    rw [name_eq] at h5
    exact Wc_ret (Lv_ret rfl ⟨by rw [printErr, if_pos (.inr h5)]; rfl, hE.trans hE6⟩)
  rw [name_eq] at h5
  replace hg1 := hE6.get hg1
  replace hg2 := hE6.get hg2
  replace hE := hE.trans hE6
  clear hE6
  have hA : ¬ (nameR v.work = false \/ nameR v.version = false) := by rw [h3, h5]; simp
  refine zy ?_
  refine Wo_callP rfl rfl rfl rfl rfl Bod.h rfl rfl (out_sv _ _ _ _) (fun h7 => ?_) (fun h7 => ?_)
  · refine zy ?_
    exact Wc_ret (Lv_ret rfl ⟨by rw [printErr, if_neg hA, if_pos (by have := of_decide_eq_true h7; omega)]; rfl, hE⟩)
  have hB : ¬ (v.reels.length < 1 \/ 12 < v.reels.length) := by have := of_decide_eq_false h7; omega
  refine zy ?_
  refine Wo_callB rfl rfl rfl rfl rfl Bod.h rfl rfl (containsFuncI_sv (first := []) (capv := []) (p := fun n => decide (n < 1 \/ 200000 < n)) (hR.ext hE) Bod.h (fun h3 _ x _ => (scPrint1_sv x h3).grows) hw3) (fun h8 h9 hE9 => ?_) (fun h8 h9 hE9 => ?_)
  · refine zy ?_
    exact Wc_ret (Lv_ret rfl ⟨by rw [printErr, if_neg hA, if_neg hB, if_pos h8]; rfl, hE.trans hE9⟩)
  replace hg1 := hE9.get hg1
  replace hg2 := hE9.get hg2
  replace hE := hE.trans hE9
  have hC : ¬ (v.reels.any fun n => decide (n < 1 \/ 200000 < n)) = true := by rw [h8]; simp
  refine zy ?_
  refine Wo_callE rfl rfl rfl rfl rfl Bod.h rfl rfl (scOdd_sv v.speeds _ _ _) fun h10 hE10 => ?_
  replace hg1 := hE10.get hg1
  replace hg2 := hE10.get hg2
  replace hE := hE.trans hE10
  refine zy ?_
  refine Wo_dec rfl rfl rfl rfl (A_neq rfl rfl) (fun h11 => ?_) (fun h11 => ?_)
  · refine zy ?_
    exact Wc_ret (Lv_ret rfl ⟨by rw [printErr, if_neg hA, if_neg hB, if_neg hC, if_pos h11]; rfl, hE⟩)
  refine zy ?_
  refine Wo_callB rfl rfl rfl rfl rfl Bod.h rfl rfl (scAbroad_sv (ht0.ext hE) hL _) (fun h12 h13 hE13 => ?_) (fun h12 h13 hE13 => ?_)
  · refine zy ?_
    exact Wc_ret (Lv_ret rfl ⟨by rw [printErr, if_neg hA, if_neg hB, if_neg hC, if_neg h11, if_pos (of_decide_eq_true h12)]; rfl, hE.trans hE13⟩)
  refine zy ?_
  exact Wc_ret (Lv_ret rfl ⟨by rw [printErr, if_neg hA, if_neg hB, if_neg hC, if_neg h11, if_neg (of_decide_eq_false h12)]; rfl, hE.trans hE13⟩)
theorem scPack_sv {tc rc : List Value} {t : ScT} {v : ScPk} {h : Heap} (ht : ScTAt h tc t) (hT : t.Fit) (hm : ScPkR h rc v) (hf : v.Fit) : Sv Tryz.prog 70 [.agg ⟨tc⟩, .agg ⟨rc⟩] h (RetP fun r h' => r = i64 (packErr v) /\ Ext h h') := by
  have ht0 := ht
  have hL := hT.lands
  obtain ⟨al, cl, at', ct, a1, c1, a2, c2, a3, c3, a4, c4, a5, c5, a6, c6, rfl, -⟩ := ht
  refine Sv_wf fun hw => ?_
  refine Sv_enter Tryz.func70 rfl (by rw [Tryz.ntmps70]; rfl) ?_; show Wc Tryz.prog ⟨70, 25, none⟩ _ _ _ _ _
  obtain rfl := hm
  have hw1 := hf.work
  have hw2 := hf.version
  refine zy ?_
  refine Wo_box rfl rfl rfl fun h1 hE1 hW1 hg1 hn1 => ?_
  refine Wo_box rfl rfl rfl fun h2 hE2 hW2 hg2 hn2 => ?_
  replace hg1 := hE2.get hg1
  have hE := hE1.trans hE2
  generalize h.nx = b1 at *
  generalize h1.nx = b2 at *
  refine zy ?_
  refine Wo_callB rfl rfl rfl rfl rfl Bod.h rfl rfl (filmName_sv _ _ hw1) (fun h3 h4 hE4 => ?_) (fun h3 h4 hE4 => ?_)
  rotate_left
  · refine zy ?_
    rw [name_eq] at h3
    exact Wc_ret (Lv_ret rfl ⟨by rw [packErr, if_pos (.inl h3)]; rfl, hE.trans hE4⟩)
  rw [name_eq] at h3
  replace hg1 := hE4.get hg1
  replace hg2 := hE4.get hg2
  replace hE := hE.trans hE4
  clear hE4
  refine zy ?_
  refine Wo_callB rfl rfl rfl rfl rfl Bod.h rfl rfl (filmName_sv _ _ hw2) (fun h5 h6 hE6 => ?_) (fun h5 h6 hE6 => ?_)
  rotate_left
  · refine zy ?_
    rw [name_eq] at h5
    exact Wc_ret (Lv_ret rfl ⟨by rw [packErr, if_pos (.inr h5)]; rfl, hE.trans hE6⟩)
  rw [name_eq] at h5
  replace hg1 := hE6.get hg1
  replace hg2 := hE6.get hg2
  replace hE := hE.trans hE6
  clear hE6
  have hA : ¬ (nameR v.work = false \/ nameR v.version = false) := by rw [h3, h5]; simp
  refine zy ?_
  refine Wo_callP rfl rfl rfl rfl rfl Bod.h rfl rfl (out_sv _ _ _ _) (fun h7 => ?_) (fun h7 => ?_)
  · refine zy ?_
    exact Wc_ret (Lv_ret rfl ⟨by rw [packErr, if_neg hA, if_pos (.inl (of_decide_eq_true h7))]; rfl, hE⟩)
  refine zy ?_
  refine Wo_callP rfl rfl rfl rfl rfl Bod.h rfl rfl (out_sv _ _ _ _) (fun h8 => ?_) (fun h8 => ?_)
  · refine zy ?_
    exact Wc_ret (Lv_ret rfl ⟨by rw [packErr, if_neg hA, if_pos (.inr (of_decide_eq_true h8))]; rfl, hE⟩)
  refine zy ?_
  exact Wc_ret (Lv_ret rfl ⟨by rw [packErr, if_neg hA, if_neg (fun x => x.elim (of_decide_eq_false h7) (of_decide_eq_false h8))]; rfl, hE⟩)
theorem scKey_sv {tc rc : List Value} {t : ScT} {v : ScK} {h : Heap} (ht : ScTAt h tc t) (hT : t.Fit) (hm : ScKR h rc v) : Sv Tryz.prog 72 [.agg ⟨tc⟩, .agg ⟨rc⟩] h (RetP fun r h' => r = i64 (keyErr t v) /\ Ext h h') := by
  have ht0 := ht
  have hL := hT.lands
  obtain ⟨al, cl, at', ct, a1, c1, a2, c2, a3, c3, a4, c4, a5, c5, a6, c6, rfl, -⟩ := ht
  refine Sv_wf fun hw => ?_
  refine Sv_enter Tryz.func72 rfl (by rw [Tryz.ntmps72]; rfl) ?_; show Wc Tryz.prog ⟨72, 26, none⟩ _ _ _ _ _
  obtain rfl := hm
  have hq1 := hT.packs
  have hq2 := hT.venues
  refine zy ?_
  refine Wo_box rfl rfl rfl fun h1 hE1 hW1 hg1 hn1 => ?_
  refine Wo_box rfl rfl rfl fun h2 hE2 hW2 hg2 hn2 => ?_
  replace hg1 := hE2.get hg1
  have hE := hE1.trans hE2
  generalize h.nx = b1 at *
  generalize h1.nx = b2 at *
  refine zy ?_
  refine Wo_callP rfl rfl rfl rfl rfl Bod.h rfl rfl (out_sv _ _ _ _) (fun h3 => ?_) (fun h3 => ?_)
  · refine zy ?_
    exact Wc_ret (Lv_ret rfl ⟨by rw [keyErr, if_pos (.inl (of_decide_eq_true h3))]; rfl, hE⟩)
  refine zy ?_
  refine Wo_callP rfl rfl rfl rfl rfl Bod.h rfl rfl (out_sv _ _ _ _) (fun h4 => ?_) (fun h4 => ?_)
  · refine zy ?_
    exact Wc_ret (Lv_ret rfl ⟨by rw [keyErr, if_pos (.inr (of_decide_eq_true h4))]; rfl, hE⟩)
  refine zy ?_
  refine Wo_callE rfl rfl rfl rfl rfl Bod.h rfl rfl (scOdd_sv v.window _ _ _) fun h5 hE5 => ?_
  refine zy ?_
  exact Wc_ret (Lv_ret rfl ⟨by rw [keyErr, if_neg (fun x => x.elim (of_decide_eq_false h3) (of_decide_eq_false h4))]; rfl, hE.trans hE5⟩)
theorem scLoan_sv {tc rc : List Value} {t : ScT} {v : ScL} {h : Heap} (ht : ScTAt h tc t) (hT : t.Fit) (hm : ScLR h rc v) : Sv Tryz.prog 74 [.agg ⟨tc⟩, .agg ⟨rc⟩] h (RetP fun r h' => r = i64 (loanErr t v) /\ Ext h h') := by
  have ht0 := ht
  have hL := hT.lands
  obtain ⟨al, cl, at', ct, a1, c1, a2, c2, a3, c3, a4, c4, a5, c5, a6, c6, rfl, -⟩ := ht
  refine Sv_wf fun hw => ?_
  refine Sv_enter Tryz.func74 rfl (by rw [Tryz.ntmps74]; rfl) ?_; show Wc Tryz.prog ⟨74, 26, none⟩ _ _ _ _ _
  obtain rfl := hm
  have hq1 := hT.prints
  have hq2 := hT.venues
  refine zy ?_
  refine Wo_box rfl rfl rfl fun h1 hE1 hW1 hg1 hn1 => ?_
  refine Wo_box rfl rfl rfl fun h2 hE2 hW2 hg2 hn2 => ?_
  replace hg1 := hE2.get hg1
  have hE := hE1.trans hE2
  generalize h.nx = b1 at *
  generalize h1.nx = b2 at *
  refine zy ?_
  refine Wo_callP rfl rfl rfl rfl rfl Bod.h rfl rfl (out_sv _ _ _ _) (fun h3 => ?_) (fun h3 => ?_)
  · refine zy ?_
    exact Wc_ret (Lv_ret rfl ⟨by rw [loanErr, if_pos (.inl (of_decide_eq_true h3))]; rfl, hE⟩)
  refine zy ?_
  refine Wo_callP rfl rfl rfl rfl rfl Bod.h rfl rfl (out_sv _ _ _ _) (fun h4 => ?_) (fun h4 => ?_)
  · refine zy ?_
    exact Wc_ret (Lv_ret rfl ⟨by rw [loanErr, if_pos (.inr (of_decide_eq_true h4))]; rfl, hE⟩)
  refine zy ?_
  refine Wo_callE rfl rfl rfl rfl rfl Bod.h rfl rfl (scOdd_sv v.days _ _ _) fun h5 hE5 => ?_
  refine zy ?_
  exact Wc_ret (Lv_ret rfl ⟨by rw [loanErr, if_neg (fun x => x.elim (of_decide_eq_false h3) (of_decide_eq_false h4))]; rfl, hE.trans hE5⟩)
end Go.Dw
/- G3: contracts: the table of ways, screen.Check. -/
namespace Go.Dw
open Go Go.Dx Go.Proofs
set_option maxRecDepth 100000
def tup3 (x : Int × Int × Int) : Value := .tuple ⟨[i64 x.1, i64 x.2.1, i64 x.2.2]⟩
theorem indexFuncT_sv {a : Option Addr} {cap : Nat} {l : List (List Int)} {h : Heap} {g : FuncId} {first capv : List Value} {p : List Int -> Bool} (hI : RowsAt 1 ScTvR h a l) (hbd : bodied Tryz.prog g = true)
    (hp : ∀ h1, Ext h h1 -> ∀ ap c x, x ∈ l -> IntsAt h1 ap x -> Sv Tryz.prog g (first ++ ([.slice ap x.length c] ++ capv)) h1 (RetP fun v h' => v = .bool (p x) /\ Ext h1 h')) (hlen : l.length < 9223372036854775808) :
    Sv Tryz.prog 173 [.slice a l.length cap, .func (.func g) ⟨first⟩ ⟨capv⟩] h (RetP fun v h' => v = i64 (firstI p l) /\ Ext h h') := by
  refine Sv_enter Tryz.func173 rfl (by rw [Tryz.ntmps173]; rfl) ?_; show Wc Tryz.prog ⟨173, 19, none⟩ _ _ _ _ _
  refine zy ?_
  refine Wc_loop (fun (k : Nat) m ds h' => ds = [] /\ Ext h h' /\ k <= l.length /\ (∀ j (hj : j < l.length), j < k -> p l[j] = false) /\ AllK m [(0, .slice a l.length cap), (1, .func (.func g) ⟨first⟩ ⟨capv⟩), (7, i64 l.length), (8, i64 k)])
    (fun k => l.length - k) 0 ?_ ?_
  · exact ⟨rfl, Ext.refl _, Nat.zero_le _, (fun _ _ hj => by omega), rfl, rfl, rfl, rfl, trivial⟩
  rintro k m ds h' ⟨rfl, hE, hk, hno, hall⟩
  refine Wc.le ?_ (Le.kn hall)
  refine zy ?_
  refine Wo_dec rfl rfl rfl rfl (A_lss rfl rfl) (fun h1 => ?_) (fun h1 => ?_)
  · have hk' : k < l.length := by simpa using h1
    obtain ⟨b, o, oa, rfl, row, hrow, ap, c, rfl, hIp⟩ := hI k hk'
    have hc : cellAt h' b (o + k * 1) = some (.slice ap l[k].length c) := cell_of_row (k := 0) (hE.row hrow) rfl
    refine zy ?_
    refine Wo_do rfl rfl rfl rfl (A_ix Und.h Tsz.h rfl rfl) ?_
    refine zy ?_
    refine Wo_callB rfl rfl rfl rfl rfl hbd rfl rfl (hp h' hE _ _ _ (List.getElem_mem hk') (hIp.ext hE)) (fun hb h2 hE2 => ?_) (fun hb h2 hE2 => ?_)
    · refine zy ?_
      refine Wc_ret (Lv_ret rfl ⟨?_, hE.trans hE2⟩)
      have : l.findIdx? p = some k := by
        rw [List.findIdx?_eq_some_iff_getElem]
        exact ⟨hk', hb, fun j hj => by simp [hno j (by omega) hj]⟩
      simp [firstI, this]; rfl
    · refine zy ?_
      refine ⟨k + 1, ?_, rfl, hE.trans hE2, hk', ?_, rfl, rfl, rfl, rfl, trivial⟩
      · show l.length - (k + 1) < l.length - k; omega
      · intro j hj hlt
        rcases Nat.lt_or_ge j k with g | g
        · exact hno j hj g
        · have : j = k := by omega
          subst this; exact hb
  · have hk2 : k = l.length := by omega
    subst hk2
    refine zy ?_
    refine Wc_ret (Lv_ret rfl ⟨?_, hE⟩)
    have : l.findIdx? p = none := by
      rw [List.findIdx?_eq_none_iff]
      intro x hx
      obtain ⟨j, hj, rfl⟩ := List.getElem_of_mem hx
      exact hno j hj hj
    simp [firstI, this]; rfl
theorem containsFuncT_sv {a : Option Addr} {cap : Nat} {l : List (List Int)} {h : Heap} {g : FuncId} {first capv : List Value} {p : List Int -> Bool} (hI : RowsAt 1 ScTvR h a l) (hbd : bodied Tryz.prog g = true)
    (hp : ∀ h1, Ext h h1 -> ∀ ap c x, x ∈ l -> IntsAt h1 ap x -> Sv Tryz.prog g (first ++ ([.slice ap x.length c] ++ capv)) h1 (RetP fun v h' => v = .bool (p x) /\ Ext h1 h')) (hlen : l.length < 9223372036854775808) :
    Sv Tryz.prog 133 [.slice a l.length cap, .func (.func g) ⟨first⟩ ⟨capv⟩] h (RetP fun v h' => v = .bool (l.any p) /\ Ext h h') := by
  refine Sv_enter Tryz.func133 rfl (by rw [Tryz.ntmps133]; rfl) ?_; show Wc Tryz.prog ⟨133, 9, none⟩ _ _ _ _ _
  refine zy ?_
  refine Wo_callE rfl rfl rfl rfl rfl Bod.h rfl rfl (indexFuncT_sv hI hbd hp hlen) fun h1 hE1 => ?_
  refine zy ?_
  refine Wo_dec rfl rfl rfl rfl (A_geq rfl rfl) (fun hb => ?_) (fun hb => ?_)
  · refine zy ?_
    exact Wc_ret (Lv_ret rfl ⟨by rw [<- firstI_any, decide_eq_true hb]; rfl, hE1⟩)
  · refine zy ?_
    exact Wc_ret (Lv_ret rfl ⟨by rw [<- firstI_any, decide_eq_false hb]; rfl, hE1⟩)
theorem scTravel1_sv {b1 : Nat} {t : ScT} {al : Option Addr} {cl : Nat} {r : List Value} {f : Int} {ap : Option Addr} {c : Nat} {x : List Int} {h : Heap} (hg : h.get b1 = some (.cells (i64 f :: .slice al t.lands.length cl :: r) 115 false)) :
    Sv Tryz.prog 129 [.slice ap x.length c, .pointer (some ⟨b1, 0, none⟩)] h (RetP fun v h' => v = .bool (decide (x.length ≠ t.lands.length)) /\ h' = h) := by
  refine Sv_enter Tryz.func129 rfl (by rw [Tryz.ntmps129]; rfl) ?_; show Wc Tryz.prog ⟨129, 11, none⟩ _ _ _ _ _
  refine zy ?_
  refine Wo_dec rfl rfl rfl rfl (A_neq rfl rfl) (fun h1 => ?_) (fun h1 => ?_)
  · refine zy ?_
    exact Wc_ret (Lv_ret rfl ⟨by rw [decide_eq_true (show x.length ≠ t.lands.length from fun e => h1 (by rw [e]))]; rfl, rfl⟩)
  · refine zy ?_
    exact Wc_ret (Lv_ret rfl ⟨by rw [decide_eq_false (show ¬ x.length ≠ t.lands.length from fun e => e (by have := Decidable.not_not.1 h1; omega))]; rfl, rfl⟩)
theorem scTravel3_sv (n : Int) (h : Heap) : Sv Tryz.prog 132 [i64 n] h (RetP fun v h' => v = .bool (decide (n < -1 \/ 60 < n)) /\ h' = h) := by
  refine Sv_enter Tryz.func132 rfl (by rw [Tryz.ntmps132]; rfl) ?_; show Wc Tryz.prog ⟨132, 5, none⟩ _ _ _ _ _
  refine zy ?_
  refine Wo_callV rfl rfl rfl rfl rfl Bod.h rfl rfl (out_sv _ _ _ _) ?_
  refine zy ?_
  exact Wc_ret (Lv_ret rfl ⟨rfl, rfl⟩)
theorem scTravel2_sv {ap : Option Addr} {c : Nat} {x : List Int} {h : Heap} (hI : IntsAt h ap x) (hL : Len x) :
    Sv Tryz.prog 130 [.slice ap x.length c] h (RetP fun v h' => v = .bool (x.any fun n => decide (n < -1 \/ 60 < n)) /\ Ext h h') := by
  refine Sv_enter Tryz.func130 rfl (by rw [Tryz.ntmps130]; rfl) ?_; show Wc Tryz.prog ⟨130, 5, none⟩ _ _ _ _ _
  refine zy ?_
  refine Wo_callE rfl rfl rfl rfl rfl Bod.h rfl rfl (containsFuncI_sv (first := []) (capv := []) (p := fun n => decide (n < -1 \/ 60 < n)) hI Bod.h (fun h3 _ x _ => (scTravel3_sv x h3).grows) hL) fun h1 hE1 => ?_
  refine zy ?_
  exact Wc_ret (Lv_ret rfl ⟨rfl, hE1⟩)
theorem scTravel_sv {tc : List Value} {t : ScT} {h : Heap} (ht : ScTAt h tc t) (hT : t.Fit) : Sv Tryz.prog 59 [.agg ⟨tc⟩] h (RetP fun r h' => r = i64 (travelErr t) /\ Ext h h') := by
  obtain ⟨al, cl, at', ct, a1, c1, a2, c2, a3, c3, a4, c4, a5, c5, a6, c6, rfl, -, hTv, -⟩ := ht
  have hL := hT.lands
  have hL2 := hT.travel
  refine Sv_wf fun hw => ?_
  refine Sv_enter Tryz.func59 rfl (by rw [Tryz.ntmps59]; rfl) ?_; show Wc Tryz.prog ⟨59, 29, none⟩ _ _ _ _ _
  refine zy ?_
  refine Wo_box rfl rfl rfl fun h1 hE1 hW1 hg1 hn1 => ?_
  generalize h.nx = b1 at *
  refine zy ?_
  refine Wo_dec rfl rfl rfl rfl (A_neq rfl rfl) (fun h3 => ?_) (fun h3 => ?_)
  · refine zy ?_
    exact Wc_ret (Lv_ret rfl ⟨by rw [travelErr, if_pos (fun e => h3 (by rw [e]))]; rfl, hE1⟩)
  have hA : ¬ t.travel.length ≠ t.lands.length := fun e => e (by have := Decidable.not_not.1 h3; omega)
  refine zy ?_
  refine Wo_callB rfl rfl rfl rfl rfl Bod.h rfl rfl (containsFuncT_sv (first := []) (capv := [.pointer (some ⟨b1, 0, none⟩)]) (p := fun l => decide (l.length ≠ t.lands.length)) (RowsAt.ext (R := ScTvR) (fun x y => ScTvR.ext x y) hTv hE1) Bod.h (fun h3 hE3 _ _ x _ _ => (scTravel1_sv (hE3.get hg1)).grows) hL2) (fun h4 h5 hE5 => ?_) (fun h4 h5 hE5 => ?_)
  · refine zy ?_
    exact Wc_ret (Lv_ret rfl ⟨by rw [travelErr, if_neg hA, if_pos h4]; rfl, hE1.trans hE5⟩)
  have hB : ¬ (t.travel.any fun l => decide (l.length ≠ t.lands.length)) = true := by rw [h4]; simp
  replace hg1 := hE5.get hg1
  replace hE1 := hE1.trans hE5
  refine zy ?_
  refine Wo_callB rfl rfl rfl rfl rfl Bod.h rfl rfl (containsFuncT_sv (first := []) (capv := []) (p := fun l => l.any fun n => decide (n < -1 \/ 60 < n)) (RowsAt.ext (R := ScTvR) (fun x y => ScTvR.ext x y) hTv hE1) Bod.h (fun h3 hE3 _ _ x hx hI => scTravel2_sv hI (hT.travelL x hx).1) hL2) (fun h6 h7 hE7 => ?_) (fun h6 h7 hE7 => ?_)
  · refine zy ?_
    exact Wc_ret (Lv_ret rfl ⟨by rw [travelErr, if_neg hA, if_neg hB, if_pos h6]; rfl, hE1.trans hE7⟩)
  refine zy ?_
  exact Wc_ret (Lv_ret rfl ⟨by rw [travelErr, if_neg hA, if_neg hB, if_neg (by rw [h6]; simp)]; rfl, hE1.trans hE7⟩)
theorem scName1_sv (s : List UInt8) (h : Heap) : Sv Tryz.prog 57 [str s] h (RetP fun v h' => v = str s /\ Ext h h') := by
  refine Sv_enter Tryz.func57 rfl (by rw [Tryz.ntmps57]; rfl) ?_; show Wc Tryz.prog ⟨57, 4, none⟩ _ _ _ _ _
  refine zy ?_
  exact Wc_ret (Lv_ret rfl ⟨rfl, Ext.refl _⟩)
theorem scName2_sv (s : List UInt8) (h : Heap) : Sv Tryz.prog 58 [str s] h (RetP fun v h' => v = i64 0 /\ Ext h h') := by
  refine Sv_enter Tryz.func58 rfl (by rw [Tryz.ntmps58]; rfl) ?_; show Wc Tryz.prog ⟨58, 3, none⟩ _ _ _ _ _
  refine zy ?_
  exact Wc_ret (Lv_ret rfl ⟨rfl, Ext.refl _⟩)
theorem scName3_sv {row : List Value} {v : ScV} {h : Heap} (hr : ScVR h row v) : Sv Tryz.prog 61 [.agg ⟨row⟩] h (RetP fun r h' => r = str v.name /\ Ext h h') := by
  obtain rfl := hr
  refine Sv_wf fun hw => ?_
  refine Sv_enter Tryz.func61 rfl (by rw [Tryz.ntmps61]; rfl) ?_; show Wc Tryz.prog ⟨61, 5, none⟩ _ _ _ _ _
  refine zy ?_
  refine Wo_box rfl rfl rfl fun h1 hE1 hW1 hg1 hn1 => ?_
  generalize h.nx = b1 at *
  refine zy ?_
  exact Wc_ret (Lv_ret rfl ⟨rfl, hE1⟩)
theorem scName4_sv {row : List Value} {v : ScP} {h : Heap} (hr : ScPR h row v) : Sv Tryz.prog 66 [.agg ⟨row⟩] h (RetP fun r h' => r = str v.name /\ Ext h h') := by
  obtain ⟨ap, cp, rfl, -⟩ := hr
  refine Sv_wf fun hw => ?_
  refine Sv_enter Tryz.func66 rfl (by rw [Tryz.ntmps66]; rfl) ?_; show Wc Tryz.prog ⟨66, 5, none⟩ _ _ _ _ _
  refine zy ?_
  refine Wo_box rfl rfl rfl fun h1 hE1 hW1 hg1 hn1 => ?_
  generalize h.nx = b1 at *
  refine zy ?_
  exact Wc_ret (Lv_ret rfl ⟨rfl, hE1⟩)
theorem scName5_sv {row : List Value} {v : ScPk} {h : Heap} (hr : ScPkR h row v) : Sv Tryz.prog 69 [.agg ⟨row⟩] h (RetP fun r h' => r = str v.name /\ Ext h h') := by
  obtain rfl := hr
  refine Sv_wf fun hw => ?_
  refine Sv_enter Tryz.func69 rfl (by rw [Tryz.ntmps69]; rfl) ?_; show Wc Tryz.prog ⟨69, 5, none⟩ _ _ _ _ _
  refine zy ?_
  refine Wo_box rfl rfl rfl fun h1 hE1 hW1 hg1 hn1 => ?_
  generalize h.nx = b1 at *
  refine zy ?_
  exact Wc_ret (Lv_ret rfl ⟨rfl, hE1⟩)
theorem fill9 (x0 x1 x2 x3 x4 x5 x6 x7 x8 : Value) :
    Instr.fill ([(0, 9)].toArray[·]?) (Value.agg ⟨[i64 0, .slice none 0 0, .slice none 0 0, .slice none 0 0, .slice none 0 0, .slice none 0 0, .slice none 0 0, .slice none 0 0, .slice none 0 0]⟩).cells [(0, .agg ⟨[x0, x1, x2, x3, x4, x5, x6, x7, x8]⟩)] = some ⟨[x0, x1, x2, x3, x4, x5, x6, x7, x8]⟩ := by kernel_rfl
set_option maxHeartbeats 1000000 in
theorem scCheck_sv {tc : List Value} {t : ScT} {h : Heap} (ht : ScTAt h tc t) (hT : t.Fit) : Sv Tryz.prog 18 [.agg ⟨tc⟩] h (RetP fun v h' => v = tup3 (checkSc t) /\ Ext h h') := by
  have ht0 := ht
  obtain ⟨al, cl, at', ct, a1, c1, a2, c2, a3, c3, a4, c4, a5, c5, a6, c6, rfl, m1, m2, m3, m4, m5, m6, m7, m8⟩ := ht
  have f1 := hT.first
  have f2 := hT.lands
  have f3 := hT.venues
  have f4 := hT.rights
  have f5 := hT.prints
  have f6 := hT.packs
  have f7 := hT.keys
  have f8 := hT.loans
  refine Sv_wf fun hw => ?_
  refine Sv_enter Tryz.func18 rfl (by rw [Tryz.ntmps18]; rfl) ?_; show Wc Tryz.prog ⟨18, 155, none⟩ _ _ _ _ _
  refine zy ?_
  refine Wo_box rfl rfl rfl fun h1 hE1 hW1 hg1 hn1 => ?_
  refine zz ?_
  refine Wo_do rfl rfl rfl rfl (A_build rfl (fill9 _ _ _ _ _ _ _ _ _)) ?_
  refine Wo_allocStore rfl rfl Zr.h Tsz.h rfl (fun _ => rfl) rfl rfl rfl fun h2 hE2 hW2 hg2 hn2 => ?_
  replace hE1 := hE1.trans hE2
  generalize h1.nx = b2 at *
  clear hE2 hW2 hn2
  refine zy ?_
  refine Wo_callP rfl rfl rfl rfl rfl Bod.h rfl rfl (out_sv _ _ _ _) (fun h3 => ?_) (fun h3 => ?_)
  · refine zy ?_
    exact Wc_ret (Lv_ret rfl ⟨by rw [checkSc, if_pos (of_decide_eq_true h3)]; rfl, hE1⟩)
  have hA := of_decide_eq_false h3
  refine zy ?_
  refine Wo_callP rfl rfl rfl rfl rfl Bod.h rfl rfl (out_sv _ _ _ _) (fun h4 => ?_) (fun h4 => ?_)
  · refine zy ?_
    exact Wc_ret (Lv_ret rfl ⟨by rw [checkSc, if_neg hA, if_pos (by have := of_decide_eq_true h4; omega)]; rfl, hE1⟩)
  have h4' := of_decide_eq_false h4
  refine zy ?_
  refine Wo_callP rfl rfl rfl rfl rfl Bod.h rfl rfl (out_sv _ _ _ _) (fun h5 => ?_) (fun h5 => ?_)
  · refine zy ?_
    exact Wc_ret (Lv_ret rfl ⟨by rw [checkSc, if_neg hA, if_pos (by have := of_decide_eq_true h5; omega)]; rfl, hE1⟩)
  have h5' := of_decide_eq_false h5
  refine zy ?_
  refine Wo_dec rfl rfl rfl rfl (A_gtr rfl rfl) (fun g0 => ?_) (fun g0 => ?_)
  · refine zy ?_
    exact Wc_ret (Lv_ret rfl ⟨by rw [checkSc, if_neg hA, if_pos (by omega)]; rfl, hE1⟩)
  refine zy ?_
  refine Wo_dec rfl rfl rfl rfl (A_gtr rfl rfl) (fun g1 => ?_) (fun g1 => ?_)
  · refine zy ?_
    exact Wc_ret (Lv_ret rfl ⟨by rw [checkSc, if_neg hA, if_pos (by omega)]; rfl, hE1⟩)
  refine zy ?_
  refine Wo_dec rfl rfl rfl rfl (A_gtr rfl rfl) (fun g2 => ?_) (fun g2 => ?_)
  · refine zy ?_
    exact Wc_ret (Lv_ret rfl ⟨by rw [checkSc, if_neg hA, if_pos (by omega)]; rfl, hE1⟩)
  refine zy ?_
  refine Wo_dec rfl rfl rfl rfl (A_gtr rfl rfl) (fun g3 => ?_) (fun g3 => ?_)
  · refine zy ?_
    exact Wc_ret (Lv_ret rfl ⟨by rw [checkSc, if_neg hA, if_pos (by omega)]; rfl, hE1⟩)
  refine zy ?_
  refine Wo_dec rfl rfl rfl rfl (A_gtr rfl rfl) (fun g4 => ?_) (fun g4 => ?_)
  · refine zy ?_
    exact Wc_ret (Lv_ret rfl ⟨by rw [checkSc, if_neg hA, if_pos (by omega)]; rfl, hE1⟩)
  have hB : ¬ ((t.lands.length < 1 \/ 8 < t.lands.length) \/ (t.venues.length < 1 \/ 8 < t.venues.length) \/ 30 < t.rights.length \/ 12 < t.prints.length \/ 12 < t.packs.length \/ 30 < t.keys.length \/ 30 < t.loans.length) := by omega
  have e0 : checkSc t = orE 2 (goNm id (fun _ => 0) 0 [] t.lands) (if travelErr t ≠ 0 then (2, 0, travelErr t) else orE 3 (goNm ScV.name (venueErr t) 0 [] t.venues) (orE 4 (goEa (rightErr t) 0 t.rights) (orE 5 (goNm ScP.name (printErr t) 0 [] t.prints) (orE 6 (goNm ScPk.name packErr 0 [] t.packs) (orE 7 (goEa (keyErr t) 0 t.keys) (orE 8 (goEa (loanErr t) 0 t.loans) (0, 0, 0))))))) := by rw [checkSc, if_neg hA, if_neg hB]
  clear h3 h4 h5 h4' h5' g0 g1 g2 g3 g4
  refine zy ?_
  refine Wo_callE rfl rfl rfl rfl rfl Bod.h rfl rfl (namedS_sv (wrong := fun _ => 0) (m1.at'.ext hE1) f2 hT.landsL Bod.h Bod.h (fun h3 _ x _ => scName1_sv x h3) (f2 := []) (fun h3 _ x _ => scName2_sv x h3)) fun h6 hE6 => ?_
  replace hg2 := hE6.get hg2
  replace hE1 := hE1.trans hE6
  clear hE6
  refine zy ?_
  refine Wo_dec rfl rfl rfl rfl (A_neq rfl rfl) (fun h7 => ?_) (fun h7 => ?_)
  · refine zy ?_
    exact Wc_ret (Lv_ret rfl ⟨by rw [e0, orE_ne h7]; rfl, hE1⟩)
  rw [orE_eq goNm_ne (Decidable.not_not.1 h7)] at e0
  clear h7
  refine zy ?_
  refine Wo_callE rfl rfl rfl rfl rfl Bod.h rfl rfl (scTravel_sv (ht0.ext hE1) hT) fun h6 hE6 => ?_
  replace hg2 := hE6.get hg2
  replace hE1 := hE1.trans hE6
  clear hE6
  refine zy ?_
  refine Wo_dec rfl rfl rfl rfl (A_neq rfl rfl) (fun h7 => ?_) (fun h7 => ?_)
  · refine zy ?_
    exact Wc_ret (Lv_ret rfl ⟨by rw [e0, if_pos h7]; rfl, hE1⟩)
  rw [if_neg h7] at e0
  clear h7
  refine zy ?_
  refine Wo_callE rfl rfl rfl rfl rfl Bod.h rfl rfl (namedV_sv (wrong := venueErr t) (f2 := [.agg ⟨_⟩]) (RowsAt.ext (R := ScVR) (fun x y => x) m3 hE1) f3 (fun x hx => (hT.venuesF x hx).name) Bod.h Bod.h (fun h3 _ _ x _ hr => scName3_sv hr) (fun h3 hE3 _ x hx hr => scVenue_sv (ht0.ext (hE1.trans hE3)) hT hr)) fun h6 hE6 => ?_
  replace hg2 := hE6.get hg2
  replace hE1 := hE1.trans hE6
  clear hE6
  refine zy ?_
  refine Wo_dec rfl rfl rfl rfl (A_neq rfl rfl) (fun h7 => ?_) (fun h7 => ?_)
  · refine zy ?_
    exact Wc_ret (Lv_ret rfl ⟨by rw [e0, orE_ne h7]; rfl, hE1⟩)
  rw [orE_eq goNm_ne (Decidable.not_not.1 h7)] at e0
  clear h7
  refine zy ?_
  refine Wo_callE rfl rfl rfl rfl rfl Bod.h rfl rfl (eachR_sv (wrong := rightErr t) (f2 := [.agg ⟨_⟩]) (RowsAt.ext (R := ScRR) (fun x y => x) m4 hE1) f4 Bod.h (fun h3 hE3 _ x hx hr => scRight_sv (ht0.ext (hE1.trans hE3)) hT hr (hT.rightsF x hx))) fun h6 hE6 => ?_
  replace hg2 := hE6.get hg2
  replace hE1 := hE1.trans hE6
  clear hE6
  refine zy ?_
  refine Wo_dec rfl rfl rfl rfl (A_neq rfl rfl) (fun h7 => ?_) (fun h7 => ?_)
  · refine zy ?_
    exact Wc_ret (Lv_ret rfl ⟨by rw [e0, orE_ne h7]; rfl, hE1⟩)
  rw [orE_eq goEa_ne (Decidable.not_not.1 h7)] at e0
  clear h7
  refine zy ?_
  refine Wo_callE rfl rfl rfl rfl rfl Bod.h rfl rfl (namedP_sv (wrong := printErr t) (f2 := [.agg ⟨_⟩]) (RowsAt.ext (R := ScPR) (fun x y => ScPR.ext x y) m5 hE1) f5 (fun x hx => (hT.printsF x hx).name) Bod.h Bod.h (fun h3 _ _ x _ hr => scName4_sv hr) (fun h3 hE3 _ x hx hr => scPrint_sv (ht0.ext (hE1.trans hE3)) hT hr (hT.printsF x hx))) fun h6 hE6 => ?_
  replace hg2 := hE6.get hg2
  replace hE1 := hE1.trans hE6
  clear hE6
  refine zy ?_
  refine Wo_dec rfl rfl rfl rfl (A_neq rfl rfl) (fun h7 => ?_) (fun h7 => ?_)
  · refine zy ?_
    exact Wc_ret (Lv_ret rfl ⟨by rw [e0, orE_ne h7]; rfl, hE1⟩)
  rw [orE_eq goNm_ne (Decidable.not_not.1 h7)] at e0
  clear h7
  refine zy ?_
  refine Wo_callE rfl rfl rfl rfl rfl Bod.h rfl rfl (namedK_sv (wrong := packErr) (f2 := [.agg ⟨_⟩]) (RowsAt.ext (R := ScPkR) (fun x y => x) m6 hE1) f6 (fun x hx => (hT.packsF x hx).name) Bod.h Bod.h (fun h3 _ _ x _ hr => scName5_sv hr) (fun h3 hE3 _ x hx hr => scPack_sv (ht0.ext (hE1.trans hE3)) hT hr (hT.packsF x hx))) fun h6 hE6 => ?_
  replace hg2 := hE6.get hg2
  replace hE1 := hE1.trans hE6
  clear hE6
  refine zy ?_
  refine Wo_dec rfl rfl rfl rfl (A_neq rfl rfl) (fun h7 => ?_) (fun h7 => ?_)
  · refine zy ?_
    exact Wc_ret (Lv_ret rfl ⟨by rw [e0, orE_ne h7]; rfl, hE1⟩)
  rw [orE_eq goNm_ne (Decidable.not_not.1 h7)] at e0
  clear h7
  refine zy ?_
  refine Wo_callE rfl rfl rfl rfl rfl Bod.h rfl rfl (eachK_sv (wrong := keyErr t) (f2 := [.agg ⟨_⟩]) (RowsAt.ext (R := ScKR) (fun x y => x) m7 hE1) f7 Bod.h (fun h3 hE3 _ x hx hr => scKey_sv (ht0.ext (hE1.trans hE3)) hT hr)) fun h6 hE6 => ?_
  replace hg2 := hE6.get hg2
  replace hE1 := hE1.trans hE6
  clear hE6
  refine zy ?_
  refine Wo_dec rfl rfl rfl rfl (A_neq rfl rfl) (fun h7 => ?_) (fun h7 => ?_)
  · refine zy ?_
    exact Wc_ret (Lv_ret rfl ⟨by rw [e0, orE_ne h7]; rfl, hE1⟩)
  rw [orE_eq goEa_ne (Decidable.not_not.1 h7)] at e0
  clear h7
  refine zy ?_
  refine Wo_callE rfl rfl rfl rfl rfl Bod.h rfl rfl (eachL_sv (wrong := loanErr t) (f2 := [.agg ⟨_⟩]) (RowsAt.ext (R := ScLR) (fun x y => x) m8 hE1) f8 Bod.h (fun h3 hE3 _ x hx hr => scLoan_sv (ht0.ext (hE1.trans hE3)) hT hr)) fun h6 hE6 => ?_
  replace hg2 := hE6.get hg2
  replace hE1 := hE1.trans hE6
  clear hE6
  refine zy ?_
  refine Wo_dec rfl rfl rfl rfl (A_neq rfl rfl) (fun h7 => ?_) (fun h7 => ?_)
  · refine zy ?_
    exact Wc_ret (Lv_ret rfl ⟨by rw [e0, orE_ne h7]; rfl, hE1⟩)
  rw [orE_eq goEa_ne (Decidable.not_not.1 h7)] at e0
  clear h7
  refine zy ?_
  exact Wc_ret (Lv_ret rfl ⟨by rw [e0]; rfl, hE1⟩)
end Go.Dw
/- G4: contracts: the parts of a task, package telecineref11. -/
namespace Go.Dw
open Go Go.Dx Go.Proofs
set_option maxRecDepth 100000
theorem in_neg {a lo hi : Int} (h : decide (lo <= a /\ a <= hi) = false) : a < lo \/ hi < a := by have := of_decide_eq_false h; omega
theorem in_pos {a lo hi : Int} (h : decide (lo <= a /\ a <= hi) = true) : ¬ (a < lo \/ hi < a) := by have := of_decide_eq_true h; omega
theorem refOdd_sv (s : Sp) (lo hi : Int) (h : Heap) : Sv Tryz.prog 82 [.agg ⟨[i64 s.lo, i64 s.hi]⟩, i64 lo, i64 hi] h (RetP fun v h' => v = i64 (oddS s lo hi) /\ Ext h h') := by
  refine Sv_wf fun hw => ?_
  refine Sv_enter Tryz.func82 rfl (by rw [Tryz.ntmps82]; rfl) ?_; show Wc Tryz.prog ⟨82, 26, none⟩ _ _ _ _ _
  refine zy ?_
  refine Wo_box rfl rfl rfl fun h1 hE1 hW1 hg1 hn1 => ?_
  generalize h.nx = b1 at *
  refine zy ?_
  refine Wo_callP rfl rfl rfl rfl rfl Bod.h rfl rfl (in_sv _ _ _ _) (fun h2 => ?_) (fun h2 => ?_)
  rotate_left
  · refine zy ?_
    exact Wc_ret (Lv_ret rfl ⟨by rw [oddS, if_pos (.inl (in_neg h2))]; rfl, hE1⟩)
  refine zy ?_
  refine Wo_callP rfl rfl rfl rfl rfl Bod.h rfl rfl (in_sv _ _ _ _) (fun h3 => ?_) (fun h3 => ?_)
  rotate_left
  · refine zy ?_
    exact Wc_ret (Lv_ret rfl ⟨by rw [oddS, if_pos (.inr (in_neg h3))]; rfl, hE1⟩)
  have hn : ¬ ((s.lo < lo \/ hi < s.lo) \/ (s.hi < lo \/ hi < s.hi)) := fun x => x.elim (in_pos h2) (in_pos h3)
  refine zy ?_
  refine Wo_dec rfl rfl rfl rfl (A_gtr rfl rfl) (fun h4 => ?_) (fun h4 => ?_)
  · refine zy ?_
    exact Wc_ret (Lv_ret rfl ⟨by rw [oddS, if_neg hn, if_pos h4]; rfl, hE1⟩)
  refine zy ?_
  exact Wc_ret (Lv_ret rfl ⟨by rw [oddS, if_neg hn, if_neg h4]; rfl, hE1⟩)
theorem refname_sv {a : Option Addr} {cap : Nat} {l : List (List UInt8)} {s : List UInt8} {h : Heap} (hl : StrsAt h a l) (hn : Len s) (hlen : Len l) : Sv Tryz.prog 76 [str s, .slice a l.length cap] h (RetP fun v h' => v = i64 (nameErr s l) /\ h' = h) := by
  refine Sv_enter Tryz.func76 rfl (by rw [Tryz.ntmps76]; rfl) ?_; show Wc Tryz.prog ⟨76, 21, none⟩ _ _ _ _ _
  refine zy ?_
  refine Wo_callP rfl rfl rfl rfl rfl Bod.h rfl rfl (refName_sv s h hn) (fun h1 => ?_) (fun h1 => ?_)
  rotate_left
  · refine zy ?_
    exact Wc_ret (Lv_ret rfl ⟨by simp [nameErr, h1]; rfl, rfl⟩)
  refine zy ?_
  refine Wc_loop (fun (k : Nat) m ds h' => ds = [] /\ h' = h /\ k <= l.length /\ (∀ j (hj : j < l.length), j < k -> l[j] ≠ s) /\ AllK m [(0, str s), (1, .slice a l.length cap), (5, i64 k)]) (fun k => l.length - k) 0 ?_ ?_
  · exact ⟨rfl, rfl, Nat.zero_le _, (fun _ _ hj => by omega), rfl, rfl, rfl, trivial⟩
  rintro k m ds h' ⟨rfl, rfl, hk, hno, hall⟩
  refine Wc.le ?_ (Le.kn hall)
  refine zy ?_
  refine Wo_dec rfl rfl rfl rfl (A_lss rfl rfl) (fun h3 => ?_) (fun h3 => ?_)
  · have hk' : k < l.length := by simpa using h3
    obtain ⟨b, o, oa, rfl, hc⟩ := hl k hk'
    refine zy ?_
    refine Wo_do rfl rfl rfl rfl (A_ix Und.h Tsz.h rfl rfl) ?_
    refine zy ?_
    refine Wo_dec rfl rfl rfl rfl (A_eqlStr rfl rfl) (fun h4 => ?_) (fun h4 => ?_)
    · refine zy ?_
      refine Wc_ret (Lv_ret rfl ⟨?_, rfl⟩)
      have : s ∈ l := by rw [<- h4]; exact List.getElem_mem hk'
      simp [nameErr, h1, this]; rfl
    · refine zy ?_
      refine ⟨k + 1, ?_, rfl, rfl, hk', ?_, rfl, rfl, rfl, trivial⟩
      · show l.length - (k + 1) < l.length - k; omega
      · intro j hj hlt
        rcases Nat.lt_or_ge j k with g | g
        · exact hno j hj g
        · have : j = k := by omega
          subst this; exact h4
  · refine zy ?_
    refine Wc_ret (Lv_ret rfl ⟨?_, rfl⟩)
    have : s ∉ l := fun hm => by
      obtain ⟨j, hj, e⟩ := List.getElem_of_mem hm
      exact hno j hj (by omega) e
    simp [nameErr, h1, this]; rfl
theorem refTravel_sv {tc : List Value} {t : ScT} {h : Heap} (ht : ScTAt h tc t) (hT : t.Fit) : Sv Tryz.prog 77 [.agg ⟨tc⟩] h (RetP fun r h' => r = i64 (travelErr t) /\ Ext h h') := by
  obtain ⟨al, cl, at', ct, a1, c1, a2, c2, a3, c3, a4, c4, a5, c5, a6, c6, rfl, -, hTv, -⟩ := ht
  have hL := hT.lands
  have hL2 := hT.travel
  refine Sv_wf fun hw => ?_
  refine Sv_enter Tryz.func77 rfl (by rw [Tryz.ntmps77]; rfl) ?_; show Wc Tryz.prog ⟨77, 51, none⟩ _ _ _ _ _
  refine zy ?_
  refine Wo_box rfl rfl rfl fun h1 hE1 hW1 hg1 hn1 => ?_
  replace hTv := RowsAt.ext (R := ScTvR) (fun x y => ScTvR.ext x y) hTv hE1
  generalize h.nx = b1 at *
  refine zy ?_
  refine Wo_dec rfl rfl rfl rfl (A_neq rfl rfl) (fun h3 => ?_) (fun h3 => ?_)
  · refine zy ?_
    exact Wc_ret (Lv_ret rfl ⟨by rw [travelErr, if_pos (fun e => h3 (by rw [e]))]; rfl, hE1⟩)
  have hA : ¬ t.travel.length ≠ t.lands.length := fun e => e (by have := Decidable.not_not.1 h3; omega)
  refine zy ?_
  refine Wc_loop (fun (s : Nat × Int) m ds h' => ds = [] /\ h' = h1 /\ s.1 <= t.travel.length /\ (∀ j (hj : j < t.travel.length), j < s.1 -> t.travel[j].length = t.lands.length) /\ s.2 = (if ((t.travel.take s.1).any fun l => l.any fun n => decide (n < -1 \/ 60 < n)) = true then 7 else 0) ∧
      AllK m [(1, .pointer (some ⟨b1, 0, none⟩)), (3, i64 s.2), (4, i64 s.1)]) (fun s => t.travel.length - s.1) (0, 0) ?_ ?_
  · exact ⟨rfl, rfl, Nat.zero_le _, (fun _ _ hj => by omega), rfl, rfl, rfl, rfl, trivial⟩
  rintro ⟨k, e⟩ m ds h' ⟨rfl, rfl, hk, hno, he, hall⟩
  simp only at hk hno he hall
  refine Wc.le ?_ (Le.kn hall)
  refine zy ?_
  refine Wo_dec rfl rfl rfl rfl (A_lss rfl rfl) (fun h6 => ?_) (fun h6 => ?_)
  · have hk' : k < t.travel.length := by simpa using h6
    obtain ⟨b, o, oa, rfl, row, hrow, ap, c, rfl, hIp⟩ := hTv k hk'
    have hc : cellAt h' b (o + k * 1) = some (.slice ap t.travel[k].length c) := cell_of_row (k := 0) hrow rfl
    have hTl := hT.travelL _ (List.getElem_mem hk')
    have htk : t.travel.take (k + 1) = t.travel.take k ++ [t.travel[k]] := by rw [List.take_add_one, List.getElem?_eq_getElem hk']; rfl
    have hTl1 := hTl.1
    refine zy ?_
    refine Wc_draw hmix [0, 1, 0, 7, 15, 31, 0, 64, 192, 511] [0, 1, 2, 3, 4, 5, 6, 7, 8, 9] none [] (by kernel_rfl) (by kernel_rfl) ?_
    refine z_f ?_; refine z_l ?_; refine z_m ?_; refine z_i ?_; refine z_l ?_; refine z_c ?_; refine z_f ?_; refine z_l ?_; refine z_c ?_
    refine Wp_dec rfl rfl rfl rfl rfl (fun _ => A_neq rfl rfl) (fun h7 => ?_) (fun h7 => ?_)
    · refine Wp_end (Stl_nil rfl) nb' ?_
      refine zy ?_
      refine Wc_ret (Lv_ret rfl ⟨?_, hE1⟩)
      have : (t.travel.any fun l => decide (l.length ≠ t.lands.length)) = true := by
        rw [List.any_eq_true]
        exact ⟨_, List.getElem_mem hk', decide_eq_true (fun e => h7 (by rw [e]))⟩
      rw [travelErr, if_neg hA, if_pos this]; rfl
    have h7' : t.travel[k].length = t.lands.length := by have := Decidable.not_not.1 h7; omega
    refine Wp_end (Stl_nil rfl) nb' ?_
    refine zy ?_
    refine Wc_loop (fun (s : Nat × Int) m ds h2 => ds = [] /\ h' = h2 /\ s.1 <= t.travel[k].length /\ s.2 = (if ((t.travel.take k).any fun l => l.any fun n => decide (n < -1 \/ 60 < n)) = true \/ ((t.travel[k].take s.1).any fun n => decide (n < -1 \/ 60 < n)) = true then 7 else 0) ∧
        AllK m [(1, .pointer (some ⟨b1, 0, none⟩)), (3, i64 s.2), (4, i64 k), (5, i64 s.1)]) (fun s => t.travel[k].length - s.1) (0, e) ?_ ?_
    · refine ⟨rfl, rfl, Nat.zero_le _, ?_, rfl, rfl, rfl, rfl, trivial⟩
      rw [he]; simp
    clear hall
    rintro ⟨i, e2⟩ m ds h2 ⟨rfl, rfl, hi, he2, hall⟩
    simp only at hi he2 hall
    refine Wc.le ?_ (Le.kn hall)
    refine zy ?_
    refine Wo_do rfl rfl rfl rfl (A_ix Und.h Tsz.h rfl rfl) ?_
    refine zy ?_
    refine Wo_dec rfl rfl rfl rfl (A_lss rfl rfl) (fun h8 => ?_) (fun h8 => ?_)
    · have hi' : i < t.travel[k].length := by simpa using h8
      obtain ⟨b', o', oa', rfl, hc'⟩ := hIp i hi'
      have hti : t.travel[k].take (i + 1) = t.travel[k].take i ++ [t.travel[k][i]] := by rw [List.take_add_one, List.getElem?_eq_getElem hi']; rfl
      refine zy ?_
      refine Wo_do rfl rfl rfl rfl (A_ix Und.h Tsz.h rfl rfl) ?_
      refine zy ?_
      refine Wo_do rfl rfl rfl rfl (A_ix Und.h Tsz.h rfl rfl) ?_
      refine zy ?_
      refine Wo_callP rfl rfl rfl rfl rfl Bod.h rfl rfl (in_sv _ _ _ _) (fun h9 => ?_) (fun h9 => ?_)
      · refine zy ?_
        refine ⟨(i + 1, e2), ?_, rfl, rfl, hi', ?_, rfl, rfl, rfl, rfl, trivial⟩
        · simp only; omega
        · have := in_pos h9
          rw [he2, hti, List.any_append]; simp only [List.any_cons, List.any_nil, decide_eq_false this, Bool.or_false]
      · refine zy ?_
        refine ⟨(i + 1, 7), ?_, rfl, rfl, hi', ?_, rfl, rfl, rfl, rfl, trivial⟩
        · simp only; omega
        · have := in_neg h9
          rw [hti, List.any_append]; simp only [List.any_cons, List.any_nil, decide_eq_true this, Bool.or_false, Bool.or_true, or_true, if_true]
    have hi2 : i = t.travel[k].length := by omega
    refine zy ?_
    refine ⟨(k + 1, e2), ?_, rfl, rfl, hk', ?_, ?_, rfl, rfl, rfl, trivial⟩
    · simp only; omega
    · intro j hj hlt
      rcases Nat.lt_or_ge j k with g | g
      · exact hno j hj g
      · have : j = k := by omega
        subst this; exact h7'
    · rw [he2, htk, hi2, List.take_length, List.any_append]
      simp only [List.any_cons, List.any_nil, Bool.or_false, Bool.or_eq_true]
  have hk2 : k = t.travel.length := by omega
  subst hk2
  refine zy ?_
  refine Wc_ret (Lv_ret rfl ⟨?_, hE1⟩)
  have hB : ¬ (t.travel.any fun l => decide (l.length ≠ t.lands.length)) = true := by
    rw [Bool.not_eq_true, List.any_eq_false]
    intro x hx
    obtain ⟨j, hj, rfl⟩ := List.getElem_of_mem hx
    simp [hno j hj hj]
  rw [travelErr, if_neg hA, if_neg hB, he, List.take_length]; rfl
theorem refVenue_sv {tc rc : List Value} {t : ScT} {v : ScV} {h : Heap} (ht : ScTAt h tc t) (hT : t.Fit) (hm : ScVR h rc v) : Sv Tryz.prog 78 [.agg ⟨tc⟩, .agg ⟨rc⟩] h (RetP fun r h' => r = i64 (venueErr t v) /\ Ext h h') := by
  have hL := hT.lands
  obtain ⟨al, cl, at', ct, a1, c1, a2, c2, a3, c3, a4, c4, a5, c5, a6, c6, rfl, -, hTv, -⟩ := ht
  refine Sv_wf fun hw => ?_
  refine Sv_enter Tryz.func78 rfl (by rw [Tryz.ntmps78]; rfl) ?_; show Wc Tryz.prog ⟨78, 38, none⟩ _ _ _ _ _
  obtain rfl := hm
  refine zy ?_
  refine Wo_box rfl rfl rfl fun h1 hE1 hW1 hg1 hn1 => ?_
  refine Wo_box rfl rfl rfl fun h2 hE2 hW2 hg2 hn2 => ?_
  replace hg1 := hE2.get hg1
  have hE := hE1.trans hE2
  generalize h.nx = b1 at *
  generalize h1.nx = b2 at *
  refine zy ?_
  refine Wo_callP rfl rfl rfl rfl rfl Bod.h rfl rfl (in_sv _ _ _ _) (fun h3 => ?_) (fun h3 => ?_)
  rotate_left
  · refine zy ?_
    exact Wc_ret (Lv_ret rfl ⟨by rw [venueErr, if_pos (show abroad t v.land from in_neg h3)]; rfl, hE⟩)
  have hA : ¬ abroad t v.land := in_pos h3
  refine zy ?_
  refine Wo_callP rfl rfl rfl rfl rfl Bod.h rfl rfl (in_sv _ _ _ _) (fun h5 => ?_) (fun h5 => ?_)
  rotate_left
  · refine zy ?_
    exact Wc_ret (Lv_ret rfl ⟨by rw [venueErr, if_neg hA, if_pos (.inl (in_neg h5))]; rfl, hE⟩)
  refine zy ?_
  refine Wo_callP rfl rfl rfl rfl rfl Bod.h rfl rfl (in_sv _ _ _ _) (fun h6 => ?_) (fun h6 => ?_)
  rotate_left
  · refine zy ?_
    exact Wc_ret (Lv_ret rfl ⟨by rw [venueErr, if_neg hA, if_pos (.inr (.inl (in_neg h6)))]; rfl, hE⟩)
  refine zy ?_
  refine Wo_callP rfl rfl rfl rfl rfl Bod.h rfl rfl (in_sv _ _ _ _) (fun h7 => ?_) (fun h7 => ?_)
  rotate_left
  · refine zy ?_
    exact Wc_ret (Lv_ret rfl ⟨by rw [venueErr, if_neg hA, if_pos (.inr (.inr (.inl (in_neg h7))))]; rfl, hE⟩)
  refine zy ?_
  refine Wo_callP rfl rfl rfl rfl rfl Bod.h rfl rfl (in_sv _ _ _ _) (fun h8 => ?_) (fun h8 => ?_)
  rotate_left
  · refine zy ?_
    exact Wc_ret (Lv_ret rfl ⟨by rw [venueErr, if_neg hA, if_pos (.inr (.inr (.inr (in_neg h8))))]; rfl, hE⟩)
  have hB : ¬ ((v.proj < 0 \/ 2 < v.proj) \/ (v.change < 0 \/ 60 < v.change) \/ (v.turn < 0 \/ 60 < v.turn) \/ (v.spool < 1 \/ 200000 < v.spool)) := fun x => x.elim (in_pos h5) fun x => x.elim (in_pos h6) fun x => x.elim (in_pos h7) (in_pos h8)
  refine zy ?_
  refine Wo_callE rfl rfl rfl rfl rfl Bod.h rfl rfl (refOdd_sv v.speeds _ _ _) fun h9 hE9 => ?_
  refine zy ?_
  exact Wc_ret (Lv_ret rfl ⟨by rw [venueErr, if_neg hA, if_neg hB]; rfl, hE.trans hE9⟩)
theorem refRight_sv {tc rc : List Value} {t : ScT} {v : ScR} {h : Heap} (ht : ScTAt h tc t) (hT : t.Fit) (hm : ScRR h rc v) (hf : v.Fit) : Sv Tryz.prog 79 [.agg ⟨tc⟩, .agg ⟨rc⟩] h (RetP fun r h' => r = i64 (rightErr t v) /\ Ext h h') := by
  have hL := hT.lands
  obtain ⟨al, cl, at', ct, a1, c1, a2, c2, a3, c3, a4, c4, a5, c5, a6, c6, rfl, -, hTv, -⟩ := ht
  refine Sv_wf fun hw => ?_
  refine Sv_enter Tryz.func79 rfl (by rw [Tryz.ntmps79]; rfl) ?_; show Wc Tryz.prog ⟨79, 31, none⟩ _ _ _ _ _
  obtain rfl := hm
  have hw1 := hf.work
  have hw2 := hf.version
  refine zy ?_
  refine Wo_box rfl rfl rfl fun h1 hE1 hW1 hg1 hn1 => ?_
  refine Wo_box rfl rfl rfl fun h2 hE2 hW2 hg2 hn2 => ?_
  replace hg1 := hE2.get hg1
  have hE := hE1.trans hE2
  generalize h.nx = b1 at *
  generalize h1.nx = b2 at *
  refine zy ?_
  refine Wo_callP rfl rfl rfl rfl rfl Bod.h rfl rfl (refName_sv _ _ hw1) (fun h3 => ?_) (fun h3 => ?_)
  rotate_left
  · refine zy ?_
    exact Wc_ret (Lv_ret rfl ⟨by rw [rightErr, if_pos (.inl h3)]; rfl, hE⟩)
  refine zy ?_
  refine Wo_dec rfl rfl rfl rfl (A_neqStr rfl rfl) (fun h5 => ?_) (fun h5 => ?_)
  · refine zy ?_
    refine Wo_callP rfl rfl rfl rfl rfl Bod.h rfl rfl (refName_sv _ _ hw2) (fun h6 => ?_) (fun h6 => ?_)
    rotate_left
    · refine zy ?_
      exact Wc_ret (Lv_ret rfl ⟨by rw [rightErr, if_pos (.inr ⟨h5, h6⟩)]; rfl, hE⟩)
    have hA : ¬ (nameR v.work = false \/ (v.version ≠ [] /\ nameR v.version = false)) := by rw [h3, h6]; simp
    refine zy ?_
    refine Wo_callP rfl rfl rfl rfl rfl Bod.h rfl rfl (in_sv _ _ _ _) (fun h7 => ?_) (fun h7 => ?_)
    rotate_left
    · refine zy ?_
      exact Wc_ret (Lv_ret rfl ⟨by rw [rightErr, if_neg hA, if_pos (show abroad t v.land from in_neg h7)]; rfl, hE⟩)
    have hB : ¬ abroad t v.land := in_pos h7
    refine zy ?_
    refine Wo_callE rfl rfl rfl rfl rfl Bod.h rfl rfl (refOdd_sv v.days _ _ _) fun h9 hE9 => ?_
    refine zy ?_
    exact Wc_ret (Lv_ret rfl ⟨by rw [rightErr, if_neg hA, if_neg hB]; rfl, hE.trans hE9⟩)
  · have hA : ¬ (nameR v.work = false \/ (v.version ≠ [] /\ nameR v.version = false)) := by rw [h3]; exact fun x => x.elim (fun x => nomatch x) (fun x => h5 x.1)
    refine zy ?_
    refine Wo_callP rfl rfl rfl rfl rfl Bod.h rfl rfl (in_sv _ _ _ _) (fun h7 => ?_) (fun h7 => ?_)
    rotate_left
    · refine zy ?_
      exact Wc_ret (Lv_ret rfl ⟨by rw [rightErr, if_neg hA, if_pos (show abroad t v.land from in_neg h7)]; rfl, hE⟩)
    have hB : ¬ abroad t v.land := in_pos h7
    refine zy ?_
    refine Wo_callE rfl rfl rfl rfl rfl Bod.h rfl rfl (refOdd_sv v.days _ _ _) fun h9 hE9 => ?_
    refine zy ?_
    exact Wc_ret (Lv_ret rfl ⟨by rw [rightErr, if_neg hA, if_neg hB]; rfl, hE.trans hE9⟩)
theorem refPrint_sv {tc rc : List Value} {t : ScT} {v : ScP} {h : Heap} (ht : ScTAt h tc t) (hT : t.Fit) (hm : ScPR h rc v) (hf : v.Fit) : Sv Tryz.prog 80 [.agg ⟨tc⟩, .agg ⟨rc⟩] h (RetP fun r h' => r = i64 (printErr t v) /\ Ext h h') := by
  have hL := hT.lands
  obtain ⟨al, cl, at', ct, a1, c1, a2, c2, a3, c3, a4, c4, a5, c5, a6, c6, rfl, -, hTv, -⟩ := ht
  refine Sv_wf fun hw => ?_
  refine Sv_enter Tryz.func80 rfl (by rw [Tryz.ntmps80]; rfl) ?_; show Wc Tryz.prog ⟨80, 52, none⟩ _ _ _ _ _
  obtain ⟨ap, cp, rfl, hR⟩ := hm
  have hw1 := hf.work
  have hw2 := hf.version
  have hw3 := hf.reels
  refine zy ?_
  refine Wo_box rfl rfl rfl fun h1 hE1 hW1 hg1 hn1 => ?_
  refine Wo_box rfl rfl rfl fun h2 hE2 hW2 hg2 hn2 => ?_
  replace hg1 := hE2.get hg1
  have hE := hE1.trans hE2
  generalize h.nx = b1 at *
  generalize h1.nx = b2 at *
  refine zy ?_
  replace hR := hR.ext hE
  refine Wo_callP rfl rfl rfl rfl rfl Bod.h rfl rfl (refName_sv _ _ hw1) (fun h3 => ?_) (fun h3 => ?_)
  rotate_left
  · refine zy ?_
    exact Wc_ret (Lv_ret rfl ⟨by rw [printErr, if_pos (.inl h3)]; rfl, hE⟩)
  refine zy ?_
  refine Wo_callP rfl rfl rfl rfl rfl Bod.h rfl rfl (refName_sv _ _ hw2) (fun h5 => ?_) (fun h5 => ?_)
  rotate_left
  · refine zy ?_
    exact Wc_ret (Lv_ret rfl ⟨by rw [printErr, if_pos (.inr h5)]; rfl, hE⟩)
  have hA : ¬ (nameR v.work = false \/ nameR v.version = false) := by rw [h3, h5]; simp
  refine zy ?_
  refine Wo_callP rfl rfl rfl rfl rfl Bod.h rfl rfl (in_sv _ _ _ _) (fun h7 => ?_) (fun h7 => ?_)
  rotate_left
  · refine zy ?_
    exact Wc_ret (Lv_ret rfl ⟨by rw [printErr, if_neg hA, if_pos (by have := in_neg h7; omega)]; rfl, hE⟩)
  have hB : ¬ (v.reels.length < 1 \/ 12 < v.reels.length) := by have := in_pos h7; omega
  refine zy ?_
  refine Wc_loop (fun (k : Nat) m ds h' => ds = [] /\ h2 = h' /\ k <= v.reels.length /\ (∀ j (hj : j < v.reels.length), j < k -> ¬ (v.reels[j] < 1 \/ 200000 < v.reels[j])) /\ AllK m [(2, .pointer (some ⟨b1, 0, none⟩)), (3, .pointer (some ⟨b2, 0, none⟩)), (5, i64 k)]) (fun k => v.reels.length - k) 0 ?_ ?_
  · exact ⟨rfl, rfl, Nat.zero_le _, (fun _ _ hj => by omega), rfl, rfl, rfl, trivial⟩
  rintro k m ds h' ⟨rfl, rfl, hk, hno, hall⟩
  refine Wc.le ?_ (Le.kn hall)
  refine zy ?_
  refine Wo_dec rfl rfl rfl rfl (A_lss rfl rfl) (fun h8 => ?_) (fun h8 => ?_)
  · have hk' : k < v.reels.length := by simpa using h8
    obtain ⟨b, o, oa, rfl, hc⟩ := hR k hk'
    refine zy ?_
    refine Wo_do rfl rfl rfl rfl (A_ix Und.h Tsz.h rfl rfl) ?_
    refine zy ?_
    refine Wo_callP rfl rfl rfl rfl rfl Bod.h rfl rfl (in_sv _ _ _ _) (fun h9 => ?_) (fun h9 => ?_)
    · refine zy ?_
      refine ⟨k + 1, ?_, rfl, rfl, hk', ?_, rfl, rfl, rfl, trivial⟩
      · show v.reels.length - (k + 1) < v.reels.length - k; omega
      · intro j hj hlt
        rcases Nat.lt_or_ge j k with g | g
        · exact hno j hj g
        · have : j = k := by omega
          subst this; exact in_pos h9
    · refine zy ?_
      have hany : (v.reels.any fun n => decide (n < 1 \/ 200000 < n)) = true := by
        rw [List.any_eq_true]
        exact ⟨_, List.getElem_mem hk', decide_eq_true (in_neg h9)⟩
      exact Wc_ret (Lv_ret rfl ⟨by rw [printErr, if_neg hA, if_neg hB, if_pos hany]; rfl, hE⟩)
  have hC : ¬ (v.reels.any fun n => decide (n < 1 \/ 200000 < n)) = true := by
    rw [Bool.not_eq_true, List.any_eq_false]
    intro x hx
    obtain ⟨j, hj, rfl⟩ := List.getElem_of_mem hx
    simpa using hno j hj (by omega)
  clear hall hno
  refine zy ?_
  refine Wo_callE rfl rfl rfl rfl rfl Bod.h rfl rfl (refOdd_sv v.speeds _ _ _) fun h10 hE10 => ?_
  replace hg1 := hE10.get hg1
  replace hg2 := hE10.get hg2
  replace hE := hE.trans hE10
  refine zy ?_
  refine Wo_dec rfl rfl rfl rfl (A_eql rfl rfl) (fun h11 => ?_) (fun h11 => ?_)
  · refine zy ?_
    refine Wo_callP rfl rfl rfl rfl rfl Bod.h rfl rfl (in_sv _ _ _ _) (fun h12 => ?_) (fun h12 => ?_)
    rotate_left
    · refine zy ?_
      exact Wc_ret (Lv_ret rfl ⟨by rw [printErr, if_neg hA, if_neg hB, if_neg hC, if_neg (fun e => e h11), if_pos (show abroad t v.land from in_neg h12)]; rfl, hE⟩)
    refine zy ?_
    exact Wc_ret (Lv_ret rfl ⟨by rw [printErr, if_neg hA, if_neg hB, if_neg hC, if_neg (fun e => e h11), if_neg (show ¬ abroad t v.land from in_pos h12), h11]; rfl, hE⟩)
  refine zy ?_
  exact Wc_ret (Lv_ret rfl ⟨by rw [printErr, if_neg hA, if_neg hB, if_neg hC, if_pos h11]; rfl, hE⟩)
end Go.Dw
/- G5: the contract of telecineref11.Check. -/
namespace Go.Dw
open Go Go.Dx Go.Proofs
set_option maxRecDepth 100000
theorem refScCheck_sv {tc : List Value} {t : ScT} {h : Heap} (ht : ScTAt h tc t) (hT : t.Fit) : Sv Tryz.prog 19 [.agg ⟨tc⟩] h (RetP fun v h' => v = tup3 (checkSc t) /\ Ext h h') := by
  have ht0 := ht
  obtain ⟨al, cl, at', ct, a1, c1, a2, c2, a3, c3, a4, c4, a5, c5, a6, c6, rfl, m1, m2, m3, m4, m5, m6, m7, m8⟩ := ht
  have f1 := hT.first
  have f2 := hT.lands
  have f3 := hT.venues
  have f4 := hT.rights
  have f5 := hT.prints
  have f6 := hT.packs
  have f7 := hT.keys
  have f8 := hT.loans
  refine Sv_wf fun hw => ?_
  refine Sv_enter Tryz.func19 rfl (by rw [Tryz.ntmps19]; rfl) ?_; show Wc Tryz.prog ⟨19, 315, none⟩ _ _ _ _ _
  refine zy ?_
  refine Wo_box rfl rfl rfl fun h1 hE1 hW1 hg1 hn1 => ?_
  replace ht0 := ht0.ext hE1
  replace m1 := m1.ext hE1
  replace m3 := RowsAt.ext (R := ScVR) (fun x _ => x) m3 hE1
  replace m4 := RowsAt.ext (R := ScRR) (fun x _ => x) m4 hE1
  replace m5 := RowsAt.ext (R := ScPR) (fun x y => ScPR.ext x y) m5 hE1
  replace m6 := RowsAt.ext (R := ScPkR) (fun x _ => x) m6 hE1
  replace m7 := RowsAt.ext (R := ScKR) (fun x _ => x) m7 hE1
  replace m8 := RowsAt.ext (R := ScLR) (fun x _ => x) m8 hE1
  generalize h.nx = b1 at *
  refine zy ?_
  refine Wo_callP rfl rfl rfl rfl rfl Bod.h rfl rfl (in_sv _ _ _ _) (fun h3 => ?_) (fun h3 => ?_)
  rotate_left
  · refine zy ?_
    exact Wc_ret (Lv_ret rfl ⟨by rw [checkSc, if_pos (in_neg h3)]; rfl, hE1⟩)
  have hA : ¬ (t.first < 0 \/ 80000 < t.first) := in_pos h3
  refine zy ?_
  refine Wo_callP rfl rfl rfl rfl rfl Bod.h rfl rfl (in_sv _ _ _ _) (fun h4 => ?_) (fun h4 => ?_)
  rotate_left
  · refine zy ?_
    exact Wc_ret (Lv_ret rfl ⟨by rw [checkSc, if_neg hA, if_pos (by have := in_neg h4; omega)]; rfl, hE1⟩)
  have h4' := in_pos h4
  refine zy ?_
  refine Wo_callP rfl rfl rfl rfl rfl Bod.h rfl rfl (in_sv _ _ _ _) (fun h5 => ?_) (fun h5 => ?_)
  rotate_left
  · refine zy ?_
    exact Wc_ret (Lv_ret rfl ⟨by rw [checkSc, if_neg hA, if_pos (by have := in_neg h5; omega)]; rfl, hE1⟩)
  have h5' := in_pos h5
  refine zy ?_
  refine Wo_dec rfl rfl rfl rfl (A_gtr rfl rfl) (fun g0 => ?_) (fun g0 => ?_)
  · refine zy ?_
    exact Wc_ret (Lv_ret rfl ⟨by rw [checkSc, if_neg hA, if_pos (by omega)]; rfl, hE1⟩)
  refine zy ?_
  refine Wo_dec rfl rfl rfl rfl (A_gtr rfl rfl) (fun g1 => ?_) (fun g1 => ?_)
  · refine zy ?_
    exact Wc_ret (Lv_ret rfl ⟨by rw [checkSc, if_neg hA, if_pos (by omega)]; rfl, hE1⟩)
  refine zy ?_
  refine Wo_dec rfl rfl rfl rfl (A_gtr rfl rfl) (fun g2 => ?_) (fun g2 => ?_)
  · refine zy ?_
    exact Wc_ret (Lv_ret rfl ⟨by rw [checkSc, if_neg hA, if_pos (by omega)]; rfl, hE1⟩)
  refine zy ?_
  refine Wo_dec rfl rfl rfl rfl (A_gtr rfl rfl) (fun g3 => ?_) (fun g3 => ?_)
  · refine zy ?_
    exact Wc_ret (Lv_ret rfl ⟨by rw [checkSc, if_neg hA, if_pos (by omega)]; rfl, hE1⟩)
  refine zy ?_
  refine Wo_dec rfl rfl rfl rfl (A_gtr rfl rfl) (fun g4 => ?_) (fun g4 => ?_)
  · refine zy ?_
    exact Wc_ret (Lv_ret rfl ⟨by rw [checkSc, if_neg hA, if_pos (by omega)]; rfl, hE1⟩)
  have hB : ¬ ((t.lands.length < 1 \/ 8 < t.lands.length) \/ (t.venues.length < 1 \/ 8 < t.venues.length) \/ 30 < t.rights.length \/ 12 < t.prints.length \/ 12 < t.packs.length \/ 30 < t.keys.length \/ 30 < t.loans.length) := by omega
  have e0 : checkSc t = orE 2 (goNm id (fun _ => 0) 0 [] t.lands) (if travelErr t ≠ 0 then (2, 0, travelErr t) else orE 3 (goNm ScV.name (venueErr t) 0 [] t.venues) (orE 4 (goEa (rightErr t) 0 t.rights) (orE 5 (goNm ScP.name (printErr t) 0 [] t.prints) (orE 6 (goNm ScPk.name packErr 0 [] t.packs) (orE 7 (goEa (keyErr t) 0 t.keys) (orE 8 (goEa (loanErr t) 0 t.loans) (0, 0, 0))))))) := by rw [checkSc, if_neg hA, if_neg hB]
  clear h3 h4 h5 h4' h5' g0 g1 g2 g3 g4
  obtain ⟨h0, hh0⟩ : ∃ h0, h0 = h1 := ⟨_, rfl⟩
  have hX : Ext h0 h1 := by rw [hh0]; exact Ext.refl _
  rw [<- hh0] at hE1 hW1 hg1 ht0 m1 m3 m4 m5 m6 m7 m8
  clear hh0
  refine zy ?_
  refine Wc_loop (fun (k : Nat) m ds h' => ds = [] /\ h1 = h' /\ k <= t.lands.length /\ goNm id (fun _ => 0) 0 [] t.lands = goNm id (fun _ => 0) k (t.lands.take k) (t.lands.drop k) /\ AllK m [(1, .pointer (some ⟨b1, 0, none⟩)), (5, i64 k)]) (fun k => t.lands.length - k) 0 ?_ ?_
  · exact ⟨rfl, rfl, Nat.zero_le _, rfl, rfl, rfl, trivial⟩
  rintro k m ds h' ⟨rfl, rfl, hk, hgo, hall⟩
  have hg1' := hX.get hg1
  refine Wc.le ?_ (Le.kn hall)
  refine zy ?_
  refine Wo_dec rfl rfl rfl rfl (A_lss rfl rfl) (fun h6 => ?_) (fun h6 => ?_)
  · have hk' : k < t.lands.length := by simpa using h6
    have hdr : t.lands.drop k = t.lands[k] :: t.lands.drop (k + 1) := List.drop_eq_getElem_cons hk'
    have htk : t.lands.take (k + 1) = t.lands.take k ++ [t.lands[k]] := by rw [List.take_add_one, List.getElem?_eq_getElem hk']; rfl
    rw [hdr, goNm] at hgo
    have hxN := hT.landsL _ (List.getElem_mem hk')
    obtain ⟨b, o, hal⟩ := m1.plain (List.ne_nil_of_length_pos (by omega))
    have hle := m1.le
    have hpre : StrsAt h1 (some ⟨b, o, none⟩) (t.lands.take k) := by rw [<- hal]; exact (m1.take k).ext hX
    have hplen : (t.lands.take k).length = k := by simp; omega
    obtain ⟨b', o', oa', hal', hc⟩ := m1.at' k hk'
    rw [hal] at hal'
    cases hal'
    subst hal
    replace hc := hX.cell hc
    generalize hmk : t.lands[k] = x at *
    refine zy ?_
    refine Wc_draw hmix [0, 1, 0, 7, 15, 0, 32, 0, 224, 511, 1023] [0, 1, 2, 3, 4, 5, 6, 7, 8] (some 9) [([], (some 10)), ([], none)] (by kernel_rfl) (by kernel_rfl) ?_
    refine z_f ?_; refine z_l ?_; refine z_m ?_; refine z_i ?_; refine z_l ?_; refine z_f ?_; refine z_l ?_; refine z_m ?_; refine Wp_pure rfl rfl rfl rfl rfl (fun _ => A_sliceTo (k := k) Und.h Tsz.h rfl rfl rfl (by omega)) ?_
    refine Wp_eff [0, 1, 2, 3, 4, 5, 6, 7, 8] (by kernel_rfl) rfl (Stl_nil rfl) rfl nb rfl (W1_callV rfl rfl rfl rfl rfl Bod.h (by have := refname_sv (cap := cl) hpre hxN (by omega); rw [hplen] at this; exact this) ?_)
    refine Wp_eff [0, 1, 2, 3, 4, 5, 6, 7, 8, 9] (by kernel_rfl) rfl (Stl_nil rfl) rfl nb rfl (W1_op rfl rfl (A_assign rfl) ?_)
    refine Wp_end (Stl_nil rfl) nb' ?_
    refine zy ?_
    refine Wo_dec rfl rfl rfl rfl (A_neq rfl rfl) (fun h7 => ?_) (fun h7 => ?_)
    · refine zy ?_
      refine Wc_ret (Lv_ret rfl ⟨?_, hE1.trans hX⟩)
      rw [show nameErr (id x) (t.lands.take k) = nameErr x (t.lands.take k) from rfl, if_pos h7] at hgo
      rw [e0, hgo]; rfl
    rw [show nameErr (id x) (t.lands.take k) = nameErr x (t.lands.take k) from rfl, if_neg h7, if_neg (by decide)] at hgo
    refine zy ?_
    refine ⟨k + 1, ?_, rfl, rfl, hk', ?_, rfl, rfl, trivial⟩
    · show t.lands.length - (k + 1) < t.lands.length - k; omega
    · rw [htk]; exact hgo
  have hgN : goNm id (fun _ => 0) 0 [] t.lands = none := by
    have hk2 : k = t.lands.length := by omega
    rw [hgo, hk2, List.drop_length]; rfl
  rw [hgN] at e0
  replace e0 : checkSc t = _ := e0
  clear hgo hgN hall
  rw [show ∀ x, orE 2 none x = x from fun _ => rfl] at e0
  refine zy ?_
  refine Wo_callE rfl rfl rfl rfl rfl Bod.h rfl rfl (refTravel_sv (ht0.ext hX) hT) fun h6 hE6 => ?_
  replace hg1' := hE6.get hg1'
  replace hX := hX.trans hE6
  clear hE6
  refine zy ?_
  refine Wo_dec rfl rfl rfl rfl (A_neq rfl rfl) (fun h7 => ?_) (fun h7 => ?_)
  · refine zy ?_
    exact Wc_ret (Lv_ret rfl ⟨by rw [e0, if_pos h7]; rfl, hE1.trans hX⟩)
  rw [if_neg h7] at e0
  clear h7
  refine zy ?_
  refine Wc_loop (fun (s : Nat × Value) m ds h' => ds = [] /\ s.1 <= t.venues.length /\ Ext h0 h' /\ OwnSl h0 h' s.2 9 1 (((t.venues.take s.1).map ScV.name).map str) s.1 ∧
      goNm ScV.name (venueErr t) 0 [] t.venues = goNm ScV.name (venueErr t) s.1 ((t.venues.take s.1).map ScV.name) (t.venues.drop s.1) /\ AllK m [(1, .pointer (some ⟨b1, 0, none⟩)), (8, s.2), (9, i64 s.1)]) (fun s => t.venues.length - s.1) (0, .slice none 0 0) ?_ ?_
  · exact ⟨rfl, Nat.zero_le _, hX, OwnSl.nil _ _ _ _, rfl, rfl, rfl, rfl, trivial⟩
  clear hX hg1'
  rintro ⟨k, nv⟩ m ds h7 ⟨rfl, hk, hX, hO, hgo, hall⟩
  simp only at hk hO hgo hall
  have hg1' := hX.get hg1
  refine Wc.le ?_ (Le.kn hall)
  refine zy ?_
  refine Wo_dec rfl rfl rfl rfl (A_lss rfl rfl) (fun h6 => ?_) (fun h6 => ?_)
  · have hk' : k < t.venues.length := by simpa using h6
    have hdr : t.venues.drop k = t.venues[k] :: t.venues.drop (k + 1) := List.drop_eq_getElem_cons hk'
    have htk : t.venues.take (k + 1) = t.venues.take k ++ [t.venues[k]] := by rw [List.take_add_one, List.getElem?_eq_getElem hk']; rfl
    rw [hdr, goNm] at hgo
    obtain ⟨b, o, oa, rfl, row, hrow, hma⟩ := m3 k hk'
    have hxm := List.getElem_mem hk'
    generalize hmk : t.venues[k] = x at *
    have hma0 := hma
    obtain rfl := hma
    have hrow7 := hX.row hrow
    obtain ⟨aN, rfl, _, hNl⟩ := hO.list
    have hNlen : ((t.venues.take k).map ScV.name).length = k := by simp; omega
    have hcell : cellAt h7 b (o + k * 9 + 0) = some (str x.name) := cell_of_row hrow7 rfl
    refine zy ?_
    refine Wo_do rfl rfl rfl rfl (A_ix Und.h Tsz.h rfl rfl) ?_
    refine zy ?_
    refine Wo_callV rfl rfl rfl rfl rfl Bod.h rfl rfl (refname_sv hNl (hT.venuesF _ hxm).name (by omega)) ?_
    refine zy ?_
    refine Wo_dec rfl rfl rfl rfl (A_eql rfl rfl) (fun h9 => ?_) (fun h9 => ?_)
    · rw [if_neg (fun e => e h9)] at hgo
      refine zy ?_
      refine Wc_draw hmix [0, 0, 2, 0, 14, 30, 63, 127] [0, 1, 2, 3, 4, 5] (some 6) [([], (some 7)), ([], none)] (by kernel_rfl) (by kernel_rfl) ?_
      refine z_r ?_; refine z_f ?_; refine z_l ?_; refine z_m ?_; refine z_i ?_; refine z_r ?_
      refine Wp_eff [0, 1, 2, 3, 4, 5] (by kernel_rfl) rfl (Stl_nil rfl) rfl nb rfl (W1_callE rfl rfl rfl rfl rfl Bod.h (refVenue_sv (ht0.ext hX) hT hma0) (fun h10 hE10 => ?_))
      refine Wp_eff [0, 1, 2, 3, 4, 5, 6] (by kernel_rfl) rfl (Stl_nil rfl) rfl nb rfl (W1_op rfl rfl (A_assign rfl) ?_)
      refine Wp_end (Stl_nil rfl) nb' ?_
      replace hX := hX.trans hE10
      replace hg1' := hE10.get hg1'
      replace hO := hO.ext hE10
      replace hcell := hE10.cell hcell
      refine zy ?_
      refine Wo_dec rfl rfl rfl rfl (A_neq rfl rfl) (fun h11 => ?_) (fun h11 => ?_)
      · refine zy ?_
        refine Wc_ret (Lv_ret rfl ⟨?_, hE1.trans hX⟩)
        rw [if_pos h11] at hgo
        rw [e0, hgo]; rfl
      rw [if_neg h11] at hgo
      refine zy ?_
      refine Wo_do rfl rfl rfl rfl (A_ix Und.h Tsz.h rfl rfl) ?_
      refine zy ?_
      refine Wo_bs rfl rfl Und.h Tsz.h Zr.h rfl rfl rfl rfl rfl fun h12 hE12 hW12 hg12 hn12 => ?_
      refine Wo_append (k := 1) (l := [str x.name]) hW1 (hX.trans hE12) rfl rfl rfl rfl rfl Und.h inferInstance rfl rfl (hO.ext hE12) (asrc_row Und.h (by intro k; simp) (rowAt_cells hg12 rfl)) rfl rfl (by omega) (by omega) (by omega) fun v13 h13 hO13 hE13 hK13 => ?_
      refine zy ?_
      refine ⟨(k + 1, v13), ?_, rfl, hk', hE13, ?_, ?_, rfl, rfl, rfl, trivial⟩
      · show t.venues.length - (k + 1) < t.venues.length - k; omega
      · rw [htk]; simpa using hO13
      · rw [htk, List.map_append]; exact hgo
    · rw [if_pos h9] at hgo
      refine zy ?_
      refine Wo_dec rfl rfl rfl rfl (A_neq rfl rfl) (fun h10 => ?_) (fun h10 => ?_)
      · refine zy ?_
        refine Wc_ret (Lv_ret rfl ⟨?_, hE1.trans hX⟩)
        rw [e0, hgo]; rfl
      · exact absurd h9 h10
  have hgN : goNm ScV.name (venueErr t) 0 [] t.venues = none := by
    have hk2 : k = t.venues.length := by omega
    rw [hgo, hk2, List.drop_length]; rfl
  rw [hgN] at e0
  replace e0 : checkSc t = _ := e0
  clear hgo hgN hall hO
  rw [show ∀ x, orE 3 none x = x from fun _ => rfl] at e0
  clear h6 hk
  refine zy ?_
  refine Wc_loop (fun (k : Nat) m ds h' => ds = [] /\ k <= t.rights.length /\ Ext h0 h' /\ goEa (rightErr t) 0 t.rights = goEa (rightErr t) k (t.rights.drop k) /\ AllK m [(1, .pointer (some ⟨b1, 0, none⟩)), (11, i64 k)]) (fun k => t.rights.length - k) 0 ?_ ?_
  · exact ⟨rfl, Nat.zero_le _, hX, rfl, rfl, rfl, trivial⟩
  clear hX hg1'
  rintro k m ds h7 ⟨rfl, hk, hX, hgo, hall⟩
  have hg1' := hX.get hg1
  refine Wc.le ?_ (Le.kn hall)
  refine zy ?_
  refine Wo_dec rfl rfl rfl rfl (A_lss rfl rfl) (fun h6 => ?_) (fun h6 => ?_)
  · have hk' : k < t.rights.length := by simpa using h6
    have hdr : t.rights.drop k = t.rights[k] :: t.rights.drop (k + 1) := List.drop_eq_getElem_cons hk'
    have htk : t.rights.take (k + 1) = t.rights.take k ++ [t.rights[k]] := by rw [List.take_add_one, List.getElem?_eq_getElem hk']; rfl
    rw [hdr, goEa] at hgo
    obtain ⟨b, o, oa, rfl, row, hrow, hma⟩ := m4 k hk'
    have hxm := List.getElem_mem hk'
    generalize hmk : t.rights[k] = x at *
    have hma0 := hma
    obtain rfl := hma
    have hrow7 := hX.row hrow
    refine zy ?_
    refine Wc_draw hmix [0, 0, 2, 0, 14, 30, 63, 127] [0, 1, 2, 3, 4, 5] (some 6) [([], (some 7)), ([], none)] (by kernel_rfl) (by kernel_rfl) ?_
    refine z_r ?_; refine z_f ?_; refine z_l ?_; refine z_m ?_; refine z_i ?_; refine z_r ?_
    refine Wp_eff [0, 1, 2, 3, 4, 5] (by kernel_rfl) rfl (Stl_nil rfl) rfl nb rfl (W1_callE rfl rfl rfl rfl rfl Bod.h (refRight_sv (ht0.ext hX) hT hma0 (hT.rightsF _ hxm)) (fun h10 hE10 => ?_))
    refine Wp_eff [0, 1, 2, 3, 4, 5, 6] (by kernel_rfl) rfl (Stl_nil rfl) rfl nb rfl (W1_op rfl rfl (A_assign rfl) ?_)
    refine Wp_end (Stl_nil rfl) nb' ?_
    replace hX := hX.trans hE10
    refine zy ?_
    refine Wo_dec rfl rfl rfl rfl (A_neq rfl rfl) (fun h11 => ?_) (fun h11 => ?_)
    · refine zy ?_
      refine Wc_ret (Lv_ret rfl ⟨?_, hE1.trans hX⟩)
      rw [if_pos h11] at hgo
      rw [e0, hgo]; rfl
    rw [if_neg h11] at hgo
    refine zy ?_
    refine ⟨k + 1, ?_, rfl, hk', hX, hgo, rfl, rfl, trivial⟩
    show t.rights.length - (k + 1) < t.rights.length - k; omega
  have hgN : goEa (rightErr t) 0 t.rights = none := by
    have hk2 : k = t.rights.length := by omega
    rw [hgo, hk2, List.drop_length]; rfl
  rw [hgN] at e0
  replace e0 : checkSc t = _ := e0
  clear hgo hgN hall
  rw [show ∀ x, orE 4 none x = x from fun _ => rfl] at e0
  clear h6 hk
  refine zy ?_
  refine Wc_loop (fun (s : Nat × Value) m ds h' => ds = [] /\ s.1 <= t.prints.length /\ Ext h0 h' /\ OwnSl h0 h' s.2 9 1 (((t.prints.take s.1).map ScP.name).map str) s.1 ∧
      goNm ScP.name (printErr t) 0 [] t.prints = goNm ScP.name (printErr t) s.1 ((t.prints.take s.1).map ScP.name) (t.prints.drop s.1) /\ AllK m [(1, .pointer (some ⟨b1, 0, none⟩)), (8, s.2), (13, i64 s.1)]) (fun s => t.prints.length - s.1) (0, .slice none 0 0) ?_ ?_
  · exact ⟨rfl, Nat.zero_le _, hX, OwnSl.nil _ _ _ _, rfl, rfl, rfl, rfl, trivial⟩
  clear hX hg1'
  rintro ⟨k, nv⟩ m ds h7 ⟨rfl, hk, hX, hO, hgo, hall⟩
  simp only at hk hO hgo hall
  have hg1' := hX.get hg1
  refine Wc.le ?_ (Le.kn hall)
  refine zy ?_
  refine Wo_dec rfl rfl rfl rfl (A_lss rfl rfl) (fun h6 => ?_) (fun h6 => ?_)
  · have hk' : k < t.prints.length := by simpa using h6
    have hdr : t.prints.drop k = t.prints[k] :: t.prints.drop (k + 1) := List.drop_eq_getElem_cons hk'
    have htk : t.prints.take (k + 1) = t.prints.take k ++ [t.prints[k]] := by rw [List.take_add_one, List.getElem?_eq_getElem hk']; rfl
    rw [hdr, goNm] at hgo
    obtain ⟨b, o, oa, rfl, row, hrow, hma⟩ := m5 k hk'
    have hxm := List.getElem_mem hk'
    generalize hmk : t.prints[k] = x at *
    have hma0 := hma
    obtain ⟨ap, cp, rfl, hpl⟩ := hma
    have hrow7 := hX.row hrow
    obtain ⟨aN, rfl, _, hNl⟩ := hO.list
    have hNlen : ((t.prints.take k).map ScP.name).length = k := by simp; omega
    have hcell : cellAt h7 b (o + k * 7 + 0) = some (str x.name) := cell_of_row hrow7 rfl
    refine zy ?_
    refine Wo_do rfl rfl rfl rfl (A_ix Und.h Tsz.h rfl rfl) ?_
    refine zy ?_
    refine Wo_callV rfl rfl rfl rfl rfl Bod.h rfl rfl (refname_sv hNl (hT.printsF _ hxm).name (by omega)) ?_
    refine zy ?_
    refine Wo_dec rfl rfl rfl rfl (A_eql rfl rfl) (fun h9 => ?_) (fun h9 => ?_)
    · rw [if_neg (fun e => e h9)] at hgo
      refine zy ?_
      refine Wc_draw hmix [0, 0, 2, 0, 14, 30, 63, 127] [0, 1, 2, 3, 4, 5] (some 6) [([], (some 7)), ([], none)] (by kernel_rfl) (by kernel_rfl) ?_
      refine z_r ?_; refine z_f ?_; refine z_l ?_; refine z_m ?_; refine z_i ?_; refine z_r ?_
      refine Wp_eff [0, 1, 2, 3, 4, 5] (by kernel_rfl) rfl (Stl_nil rfl) rfl nb rfl (W1_callE rfl rfl rfl rfl rfl Bod.h (refPrint_sv (ht0.ext hX) hT (hma0.ext hX) (hT.printsF _ hxm)) (fun h10 hE10 => ?_))
      refine Wp_eff [0, 1, 2, 3, 4, 5, 6] (by kernel_rfl) rfl (Stl_nil rfl) rfl nb rfl (W1_op rfl rfl (A_assign rfl) ?_)
      refine Wp_end (Stl_nil rfl) nb' ?_
      replace hX := hX.trans hE10
      replace hg1' := hE10.get hg1'
      replace hO := hO.ext hE10
      replace hcell := hE10.cell hcell
      refine zy ?_
      refine Wo_dec rfl rfl rfl rfl (A_neq rfl rfl) (fun h11 => ?_) (fun h11 => ?_)
      · refine zy ?_
        refine Wc_ret (Lv_ret rfl ⟨?_, hE1.trans hX⟩)
        rw [if_pos h11] at hgo
        rw [e0, hgo]; rfl
      rw [if_neg h11] at hgo
      refine zy ?_
      refine Wo_do rfl rfl rfl rfl (A_ix Und.h Tsz.h rfl rfl) ?_
      refine zy ?_
      refine Wo_bs rfl rfl Und.h Tsz.h Zr.h rfl rfl rfl rfl rfl fun h12 hE12 hW12 hg12 hn12 => ?_
      refine Wo_append (k := 1) (l := [str x.name]) hW1 (hX.trans hE12) rfl rfl rfl rfl rfl Und.h inferInstance rfl rfl (hO.ext hE12) (asrc_row Und.h (by intro k; simp) (rowAt_cells hg12 rfl)) rfl rfl (by omega) (by omega) (by omega) fun v13 h13 hO13 hE13 hK13 => ?_
      refine zy ?_
      refine ⟨(k + 1, v13), ?_, rfl, hk', hE13, ?_, ?_, rfl, rfl, rfl, trivial⟩
      · show t.prints.length - (k + 1) < t.prints.length - k; omega
      · rw [htk]; simpa using hO13
      · rw [htk, List.map_append]; exact hgo
    · rw [if_pos h9] at hgo
      refine zy ?_
      refine Wo_dec rfl rfl rfl rfl (A_neq rfl rfl) (fun h10 => ?_) (fun h10 => ?_)
      · refine zy ?_
        refine Wc_ret (Lv_ret rfl ⟨?_, hE1.trans hX⟩)
        rw [e0, hgo]; rfl
      · exact absurd h9 h10
  have hgN : goNm ScP.name (printErr t) 0 [] t.prints = none := by
    have hk2 : k = t.prints.length := by omega
    rw [hgo, hk2, List.drop_length]; rfl
  rw [hgN] at e0
  replace e0 : checkSc t = _ := e0
  clear hgo hgN hall hO
  rw [show ∀ x, orE 5 none x = x from fun _ => rfl] at e0
  clear h6 hk
  refine zy ?_
  refine Wc_loop (fun (s : Nat × Value) m ds h' => ds = [] /\ s.1 <= t.packs.length /\ Ext h0 h' /\ OwnSl h0 h' s.2 9 1 (((t.packs.take s.1).map ScPk.name).map str) s.1 ∧
      goNm ScPk.name (packErr) 0 [] t.packs = goNm ScPk.name (packErr) s.1 ((t.packs.take s.1).map ScPk.name) (t.packs.drop s.1) /\ AllK m [(1, .pointer (some ⟨b1, 0, none⟩)), (8, s.2), (15, i64 s.1)]) (fun s => t.packs.length - s.1) (0, .slice none 0 0) ?_ ?_
  · exact ⟨rfl, Nat.zero_le _, hX, OwnSl.nil _ _ _ _, rfl, rfl, rfl, rfl, trivial⟩
  clear hX hg1'
  rintro ⟨k, nv⟩ m ds h7 ⟨rfl, hk, hX, hO, hgo, hall⟩
  simp only at hk hO hgo hall
  have hg1' := hX.get hg1
  refine Wc.le ?_ (Le.kn hall)
  refine zy ?_
  refine Wo_dec rfl rfl rfl rfl (A_lss rfl rfl) (fun h6 => ?_) (fun h6 => ?_)
  · have hk' : k < t.packs.length := by simpa using h6
    have hdr : t.packs.drop k = t.packs[k] :: t.packs.drop (k + 1) := List.drop_eq_getElem_cons hk'
    have htk : t.packs.take (k + 1) = t.packs.take k ++ [t.packs[k]] := by rw [List.take_add_one, List.getElem?_eq_getElem hk']; rfl
    rw [hdr, goNm] at hgo
    obtain ⟨b, o, oa, rfl, row, hrow, hma⟩ := m6 k hk'
    have hxm := List.getElem_mem hk'
    generalize hmk : t.packs[k] = x at *
    have hma0 := hma
    obtain rfl := hma
    have hrow7 := hX.row hrow
    obtain ⟨aN, rfl, _, hNl⟩ := hO.list
    have hNlen : ((t.packs.take k).map ScPk.name).length = k := by simp; omega
    have hxF := hT.packsF x hxm
    have hw1 := hxF.work
    have hw2 := hxF.version
    refine Wo_wf fun hw7 => ?_
    refine zy ?_
    refine Wo_do rfl rfl rfl rfl (A_ix Und.h Tsz.h rfl rfl) ?_
    refine zy ?_
    refine Wo_allocStore rfl rfl Zr.h Tsz.h rfl (fun _ => rfl) rfl rfl rfl fun h8 hE8 hW8 hg8 hn8 => ?_
    have hbk : h0.nx <= h7.nx := hX.2.1
    replace hX := hX.trans hE8
    replace hg1' := hE8.get hg1'
    replace hO := hO.ext hE8
    replace hNl := hNl.ext hE8
    generalize h7.nx = bk at *
    refine zy ?_
    refine Wo_callV rfl rfl rfl rfl rfl Bod.h rfl rfl (refname_sv hNl (hT.packsF _ hxm).name (by omega)) ?_
    refine zy ?_
    refine Wo_dec rfl rfl rfl rfl (A_eql rfl rfl) (fun h9 => ?_) (fun h9 => ?_)
    · rw [if_neg (fun e => e h9)] at hgo
      refine zy ?_
      refine Wo_callP rfl rfl rfl rfl rfl Bod.h rfl rfl (refName_sv _ _ hw1) (fun h10 => ?_) (fun h10 => ?_)
      rotate_left
      · refine zy ?_
        refine Wo_dec rfl rfl rfl rfl (A_eql rfl rfl) (fun h12 => ?_) (fun h12 => ?_)
        · exact absurd h12 (by decide)
        refine zy ?_
        refine Wo_dec rfl rfl rfl rfl (A_neq rfl rfl) (fun h13 => ?_) (fun h13 => ?_)
        · have hp : packErr x = 6 := by rw [packErr, if_pos (.inl h10)]
          rw [hp, if_pos (by decide)] at hgo
          refine zy ?_
          refine Wc_ret (Lv_ret rfl ⟨?_, hE1.trans hX⟩)
          rw [e0, hgo]; rfl
        · exact (h13 (by decide)).elim
      refine zy ?_
      refine Wo_callP rfl rfl rfl rfl rfl Bod.h rfl rfl (refName_sv _ _ hw2) (fun h11 => ?_) (fun h11 => ?_)
      rotate_left
      · refine zy ?_
        refine Wo_dec rfl rfl rfl rfl (A_eql rfl rfl) (fun h12 => ?_) (fun h12 => ?_)
        · exact absurd h12 (by decide)
        refine zy ?_
        refine Wo_dec rfl rfl rfl rfl (A_neq rfl rfl) (fun h13 => ?_) (fun h13 => ?_)
        · have hp : packErr x = 6 := by rw [packErr, if_pos (.inr h11)]
          rw [hp, if_pos (by decide)] at hgo
          refine zy ?_
          refine Wc_ret (Lv_ret rfl ⟨?_, hE1.trans hX⟩)
          rw [e0, hgo]; rfl
        · exact (h13 (by decide)).elim
      have hP : ¬ (nameR x.work = false \/ nameR x.version = false) := by rw [h10, h11]; simp
      refine zy ?_
      refine Wo_dec rfl rfl rfl rfl (A_eql rfl rfl) (fun h12 => ?_) (fun h12 => ?_)
      rotate_left
      · exact absurd h9 h12
      refine zy ?_
      refine Wo_callP rfl rfl rfl rfl rfl Bod.h rfl rfl (in_sv _ _ _ _) (fun h14 => ?_) (fun h14 => ?_)
      rotate_left
      · refine zy ?_
        refine Wo_dec rfl rfl rfl rfl (A_neq rfl rfl) (fun h13 => ?_) (fun h13 => ?_)
        · have hp : packErr x = 7 := by rw [packErr, if_neg hP, if_pos (.inl (in_neg h14))]
          rw [hp, if_pos (by decide)] at hgo
          refine zy ?_
          refine Wc_ret (Lv_ret rfl ⟨?_, hE1.trans hX⟩)
          rw [e0, hgo]; rfl
        · exact (h13 (by decide)).elim
      refine zy ?_
      refine Wo_callP rfl rfl rfl rfl rfl Bod.h rfl rfl (in_sv _ _ _ _) (fun h15 => ?_) (fun h15 => ?_)
      rotate_left
      · refine zy ?_
        refine Wo_dec rfl rfl rfl rfl (A_neq rfl rfl) (fun h13 => ?_) (fun h13 => ?_)
        · have hp : packErr x = 7 := by rw [packErr, if_neg hP, if_pos (.inr (in_neg h15))]
          rw [hp, if_pos (by decide)] at hgo
          refine zy ?_
          refine Wc_ret (Lv_ret rfl ⟨?_, hE1.trans hX⟩)
          rw [e0, hgo]; rfl
        · exact (h13 (by decide)).elim
      have hp : packErr x = 0 := by rw [packErr, if_neg hP, if_neg (fun e => e.elim (in_pos h14) (in_pos h15))]
      rw [if_neg (fun e => e hp)] at hgo
      refine zy ?_
      refine Wo_dec rfl rfl rfl rfl (A_neq rfl rfl) (fun h13 => ?_) (fun h13 => ?_)
      · exact absurd h9 h13
      refine zy ?_
      refine Wo_bs rfl rfl Und.h Tsz.h Zr.h rfl rfl rfl rfl rfl fun h12 hE12 hW12 hg12 hn12 => ?_
      refine Wo_append (k := 1) (l := [str x.name]) hW1 (hX.trans hE12) rfl rfl rfl rfl rfl Und.h inferInstance rfl rfl (hO.ext hE12) (asrc_row Und.h (by intro k; simp) (rowAt_cells hg12 rfl)) rfl rfl (by omega) (by omega) (by omega) fun v13 h13 hO13 hE13 hK13 => ?_
      refine zy ?_
      refine ⟨(k + 1, v13), ?_, rfl, hk', hE13, ?_, ?_, rfl, rfl, rfl, trivial⟩
      · show t.packs.length - (k + 1) < t.packs.length - k; omega
      · rw [htk]; simpa using hO13
      · rw [htk, List.map_append]; exact hgo
    · rw [if_pos h9] at hgo
      refine zy ?_
      refine Wo_dec rfl rfl rfl rfl (A_eql rfl rfl) (fun h12 => ?_) (fun h12 => ?_)
      · exact absurd h12 h9
      refine zy ?_
      refine Wo_dec rfl rfl rfl rfl (A_neq rfl rfl) (fun h10 => ?_) (fun h10 => ?_)
      · refine zy ?_
        refine Wc_ret (Lv_ret rfl ⟨?_, hE1.trans hX⟩)
        rw [e0, hgo]; rfl
      · exact absurd h9 h10
  have hgN : goNm ScPk.name packErr 0 [] t.packs = none := by
    have hk2 : k = t.packs.length := by omega
    rw [hgo, hk2, List.drop_length]; rfl
  rw [hgN] at e0
  replace e0 : checkSc t = _ := e0
  clear hgo hgN hall hO
  rw [show ∀ x, orE 6 none x = x from fun _ => rfl] at e0
  clear h6 hk
  refine zy ?_
  refine Wc_loop (fun (k : Nat) m ds h' => ds = [] /\ k <= t.keys.length /\ Ext h0 h' /\ goEa (keyErr t) 0 t.keys = goEa (keyErr t) k (t.keys.drop k) /\ AllK m [(1, .pointer (some ⟨b1, 0, none⟩)), (18, i64 k)]) (fun k => t.keys.length - k) 0 ?_ ?_
  · exact ⟨rfl, Nat.zero_le _, hX, rfl, rfl, rfl, trivial⟩
  clear hX hg1'
  rintro k m ds h7 ⟨rfl, hk, hX, hgo, hall⟩
  have hg1' := hX.get hg1
  refine Wc.le ?_ (Le.kn hall)
  refine zy ?_
  refine Wo_dec rfl rfl rfl rfl (A_lss rfl rfl) (fun h6 => ?_) (fun h6 => ?_)
  · have hk' : k < t.keys.length := by simpa using h6
    have hdr : t.keys.drop k = t.keys[k] :: t.keys.drop (k + 1) := List.drop_eq_getElem_cons hk'
    have htk : t.keys.take (k + 1) = t.keys.take k ++ [t.keys[k]] := by rw [List.take_add_one, List.getElem?_eq_getElem hk']; rfl
    rw [hdr, goEa] at hgo
    obtain ⟨b, o, oa, rfl, row, hrow, hma⟩ := m7 k hk'
    have hxm := List.getElem_mem hk'
    generalize hmk : t.keys[k] = x at *
    obtain rfl := hma
    have hrow7 := hX.row hrow
    refine zy ?_
    refine Wo_do rfl rfl rfl rfl (A_ix Und.h Tsz.h rfl rfl) ?_
    refine zy ?_
    refine Wo_allocStore rfl rfl Zr.h Tsz.h rfl (fun _ => rfl) rfl rfl rfl fun h8 hE8 hW8 hg8 hn8 => ?_
    replace hX := hX.trans hE8
    replace hg1' := hE8.get hg1'
    generalize h7.nx = bk at *
    refine zy ?_
    refine Wo_callE rfl rfl rfl rfl rfl Bod.h rfl rfl (refOdd_sv x.window _ _ _) fun h9 hE9 => ?_
    replace hX := hX.trans hE9
    replace hg1' := hE9.get hg1'
    replace hg8 := hE9.get hg8
    refine zy ?_
    refine Wo_callP rfl rfl rfl rfl rfl Bod.h rfl rfl (in_sv _ _ _ _) (fun h14 => ?_) (fun h14 => ?_)
    rotate_left
    · refine zy ?_
      refine Wo_dec rfl rfl rfl rfl (A_neq rfl rfl) (fun h13 => ?_) (fun h13 => ?_)
      · have hp : keyErr t x = 4 := by rw [keyErr, if_pos (.inl (in_neg h14))]
        rw [hp, if_pos (by decide)] at hgo
        refine zy ?_
        refine Wc_ret (Lv_ret rfl ⟨?_, hE1.trans hX⟩)
        rw [e0, hgo]; rfl
      · exact (h13 (by decide)).elim
    refine zy ?_
    refine Wo_callP rfl rfl rfl rfl rfl Bod.h rfl rfl (in_sv _ _ _ _) (fun h15 => ?_) (fun h15 => ?_)
    rotate_left
    · refine zy ?_
      refine Wo_dec rfl rfl rfl rfl (A_neq rfl rfl) (fun h13 => ?_) (fun h13 => ?_)
      · have hp : keyErr t x = 4 := by rw [keyErr, if_pos (.inr (in_neg h15))]
        rw [hp, if_pos (by decide)] at hgo
        refine zy ?_
        refine Wc_ret (Lv_ret rfl ⟨?_, hE1.trans hX⟩)
        rw [e0, hgo]; rfl
      · exact (h13 (by decide)).elim
    have hp : keyErr t x = oddS x.window 0 57600 := by rw [keyErr, if_neg (fun e => e.elim (in_pos h14) (in_pos h15))]
    rw [hp] at hgo
    refine zy ?_
    refine Wo_dec rfl rfl rfl rfl (A_neq rfl rfl) (fun h13 => ?_) (fun h13 => ?_)
    · refine zy ?_
      refine Wc_ret (Lv_ret rfl ⟨?_, hE1.trans hX⟩)
      rw [if_pos h13] at hgo
      rw [e0, hgo]; rfl
    rw [if_neg h13] at hgo
    refine zy ?_
    refine ⟨k + 1, ?_, rfl, hk', hX, hgo, rfl, rfl, trivial⟩
    show t.keys.length - (k + 1) < t.keys.length - k; omega
  have hgN : goEa (keyErr t) 0 t.keys = none := by
    have hk2 : k = t.keys.length := by omega
    rw [hgo, hk2, List.drop_length]; rfl
  rw [hgN] at e0
  replace e0 : checkSc t = _ := e0
  clear hgo hgN hall
  rw [show ∀ x, orE 7 none x = x from fun _ => rfl] at e0
  clear h6 hk
  refine zy ?_
  refine Wc_loop (fun (k : Nat) m ds h' => ds = [] /\ k <= t.loans.length /\ Ext h0 h' /\ goEa (loanErr t) 0 t.loans = goEa (loanErr t) k (t.loans.drop k) /\ AllK m [(1, .pointer (some ⟨b1, 0, none⟩)), (21, i64 k)]) (fun k => t.loans.length - k) 0 ?_ ?_
  · exact ⟨rfl, Nat.zero_le _, hX, rfl, rfl, rfl, trivial⟩
  clear hX hg1'
  rintro k m ds h7 ⟨rfl, hk, hX, hgo, hall⟩
  have hg1' := hX.get hg1
  refine Wc.le ?_ (Le.kn hall)
  refine zy ?_
  refine Wo_dec rfl rfl rfl rfl (A_lss rfl rfl) (fun h6 => ?_) (fun h6 => ?_)
  · have hk' : k < t.loans.length := by simpa using h6
    have hdr : t.loans.drop k = t.loans[k] :: t.loans.drop (k + 1) := List.drop_eq_getElem_cons hk'
    have htk : t.loans.take (k + 1) = t.loans.take k ++ [t.loans[k]] := by rw [List.take_add_one, List.getElem?_eq_getElem hk']; rfl
    rw [hdr, goEa] at hgo
    obtain ⟨b, o, oa, rfl, row, hrow, hma⟩ := m8 k hk'
    have hxm := List.getElem_mem hk'
    generalize hmk : t.loans[k] = x at *
    obtain rfl := hma
    have hrow7 := hX.row hrow
    refine zy ?_
    refine Wo_do rfl rfl rfl rfl (A_ix Und.h Tsz.h rfl rfl) ?_
    refine zy ?_
    refine Wo_allocStore rfl rfl Zr.h Tsz.h rfl (fun _ => rfl) rfl rfl rfl fun h8 hE8 hW8 hg8 hn8 => ?_
    replace hX := hX.trans hE8
    replace hg1' := hE8.get hg1'
    generalize h7.nx = bk at *
    refine zy ?_
    refine Wo_callE rfl rfl rfl rfl rfl Bod.h rfl rfl (refOdd_sv x.days _ _ _) fun h9 hE9 => ?_
    replace hX := hX.trans hE9
    replace hg1' := hE9.get hg1'
    replace hg8 := hE9.get hg8
    refine zy ?_
    refine Wo_callP rfl rfl rfl rfl rfl Bod.h rfl rfl (in_sv _ _ _ _) (fun h14 => ?_) (fun h14 => ?_)
    rotate_left
    · refine zy ?_
      refine Wo_dec rfl rfl rfl rfl (A_neq rfl rfl) (fun h13 => ?_) (fun h13 => ?_)
      · have hp : loanErr t x = 4 := by rw [loanErr, if_pos (.inl (in_neg h14))]
        rw [hp, if_pos (by decide)] at hgo
        refine zy ?_
        refine Wc_ret (Lv_ret rfl ⟨?_, hE1.trans hX⟩)
        rw [e0, hgo]; rfl
      · exact (h13 (by decide)).elim
    refine zy ?_
    refine Wo_callP rfl rfl rfl rfl rfl Bod.h rfl rfl (in_sv _ _ _ _) (fun h15 => ?_) (fun h15 => ?_)
    rotate_left
    · refine zy ?_
      refine Wo_dec rfl rfl rfl rfl (A_neq rfl rfl) (fun h13 => ?_) (fun h13 => ?_)
      · have hp : loanErr t x = 4 := by rw [loanErr, if_pos (.inr (in_neg h15))]
        rw [hp, if_pos (by decide)] at hgo
        refine zy ?_
        refine Wc_ret (Lv_ret rfl ⟨?_, hE1.trans hX⟩)
        rw [e0, hgo]; rfl
      · exact (h13 (by decide)).elim
    have hp : loanErr t x = oddS x.days 0 80000 := by rw [loanErr, if_neg (fun e => e.elim (in_pos h14) (in_pos h15))]
    rw [hp] at hgo
    refine zy ?_
    refine Wo_dec rfl rfl rfl rfl (A_neq rfl rfl) (fun h13 => ?_) (fun h13 => ?_)
    · refine zy ?_
      refine Wc_ret (Lv_ret rfl ⟨?_, hE1.trans hX⟩)
      rw [if_pos h13] at hgo
      rw [e0, hgo]; rfl
    rw [if_neg h13] at hgo
    refine zy ?_
    refine ⟨k + 1, ?_, rfl, hk', hX, hgo, rfl, rfl, trivial⟩
    show t.loans.length - (k + 1) < t.loans.length - k; omega
  have hgN : goEa (loanErr t) 0 t.loans = none := by
    have hk2 : k = t.loans.length := by omega
    rw [hgo, hk2, List.drop_length]; rfl
  rw [hgN] at e0
  replace e0 : checkSc t = _ := e0
  clear hgo hgN hall
  rw [show ∀ x, orE 8 none x = x from fun _ => rfl] at e0
  clear h6 hk
  refine zy ?_
  exact Wc_ret (Lv_ret rfl ⟨by rw [e0]; rfl, hE1.trans hX⟩)
end Go.Dw
