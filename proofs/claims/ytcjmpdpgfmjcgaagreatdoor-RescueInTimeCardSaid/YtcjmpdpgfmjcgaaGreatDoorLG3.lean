/- C1: contracts of small functions of chapter 04. -/
import Derived.Test.YtcjmpdpgfmjcgaaGreatDoorLG2
import Derived.Test.YtcjmpdpgfmjcgaaGreatDoorLTy
namespace Go.Dw
open Go Go.Dx Go.Proofs
set_option maxRecDepth 100000
theorem out_sv (a lo hi : Int) (h : Heap) : Sv Tryz.prog 46 [i64 a, i64 lo, i64 hi] h (RetP fun v h' => v = .bool (decide (a < lo \/ hi < a)) /\ h' = h) := by
 refine Sv_enter Tryz.func46 rfl (by rw [Tryz.ntmps46]; rfl) ?_; show Wc Tryz.prog ⟨46, 15, none⟩ _ _ _ _ _
 refine zz ?_
 refine Wo_dec rfl rfl rfl rfl (A_lss rfl rfl) (fun h1 => ?_) (fun h1 => ?_)
 ·refine zz ?_
  exact Wc_ret (Lv_ret rfl ⟨by rw [decide_eq_true (.inl h1)]; rfl, rfl⟩)
 ·refine zz ?_
  refine Wo_dec rfl rfl rfl rfl (A_gtr rfl rfl) (fun h2 => ?_) (fun h2 => ?_)
  ·refine zz ?_
   exact Wc_ret (Lv_ret rfl ⟨by rw [decide_eq_true (.inr h2)]; rfl, rfl⟩)
  ·refine zz ?_
   exact Wc_ret (Lv_ret rfl ⟨by rw [decide_eq_false (not_or.2 ⟨h1, h2⟩)]; rfl, rfl⟩)
def firstI {α : Type} (p : α -> Bool) (l : List α) : Int := match l.findIdx? p with
 | some i => i
 | none => -1
theorem indexFuncI_sv {a : Option Addr} {cap : Nat} {l : List Int} {h : Heap} {g : FuncId} {first capv : List Value} {p : Int -> Bool} (hI : IntsAt h a l) (hbd : bodied Tryz.prog g = true)
  (hp : ∀ h1, Ext h h1 -> ∀ x ∈ l, Sv Tryz.prog g (first ++ ([i64 x] ++ capv)) h1 (RetP fun v h' => v = .bool (p x) /\ Ext h1 h')) (hlen : l.length < 9223372036854775808) :
  Sv Tryz.prog 93 [.slice a l.length cap, .func (.func g) ⟨first⟩ ⟨capv⟩] h (RetP fun v h' => v = i64 (firstI p l) /\ Ext h h') := by
 refine Sv_enter Tryz.func93 rfl (by rw [Tryz.ntmps93]; rfl) ?_; show Wc Tryz.prog ⟨93, 19, none⟩ _ _ _ _ _
 refine zz ?_
 refine Wc_loop (fun (k : Nat) m ds h' => ds = [] /\ Ext h h' /\ k <= l.length /\ (∀ j (hj : j < l.length), j < k -> p l[j] = false) /\ AllK m [(0, .slice a l.length cap), (1, .func (.func g) ⟨first⟩ ⟨capv⟩), (7, i64 l.length), (8, i64 k)])
  (fun k => l.length - k) 0 ?_ ?_
 ·exact ⟨rfl, Ext.refl _, Nat.zero_le _, (fun _ _ hj => by omega), rfl, rfl, rfl, rfl, trivial⟩
 rintro k m ds h' ⟨rfl, hE, hk, hno, hall⟩
 refine Wc.le ?_ (Le.kn hall)
 refine zz ?_
 refine Wo_dec rfl rfl rfl rfl (A_lss rfl rfl) (fun h1 => ?_) (fun h1 => ?_)
 ·have hk' : k < l.length := by simpa using h1
  obtain ⟨b, o, oa, rfl, hc⟩ := hI k hk'
  refine zz ?_
  refine Wo_do rfl rfl rfl rfl (A_ix Und.h Tsz.h rfl rfl) ?_
  refine zz ?_
  refine Wo_callB rfl rfl rfl rfl rfl hbd rfl rfl (hp h' hE _ (List.getElem_mem hk')) (fun hb h2 hE2 => ?_) (fun hb h2 hE2 => ?_)
  ·refine zz ?_
   refine Wc_ret (Lv_ret rfl ⟨?_, hE.trans hE2⟩)
   have : l.findIdx? p = some k := by
    rw [List.findIdx?_eq_some_iff_getElem]
    exact ⟨hk', hb, fun j hj => by simp [hno j (by omega) hj]⟩
   simp [firstI, this]; rfl
  ·refine zz ?_
   refine ⟨k + 1, ?_, rfl, hE.trans hE2, hk', ?_, rfl, rfl, rfl, rfl, trivial⟩
   ·show l.length - (k + 1) < l.length - k; omega
   ·intro j hj hlt
    rcases Nat.lt_or_ge j k with g | g
    ·exact hno j hj g
    ·have : j = k := by omega
     subst this; exact hb
 ·have hk2 : k = l.length := by omega
  subst hk2
  refine zz ?_
  refine Wc_ret (Lv_ret rfl ⟨?_, hE⟩)
  have : l.findIdx? p = none := by
   rw [List.findIdx?_eq_none_iff]
   intro x hx
   obtain ⟨j, hj, rfl⟩ := List.getElem_of_mem hx
   exact hno j hj hj
  simp [firstI, this]; rfl
theorem firstI_any {α : Type} (p : α -> Bool) (l : List α) : decide (0 <= firstI p l) = l.any p := by
 unfold firstI
 cases hq : l.findIdx? p with
 | none =>
  rw [List.findIdx?_eq_none_iff] at hq
  symm
  simp only [show ¬ ((0 : Int) <= -1) by decide, decide_false]
  rw [List.any_eq_false]
  intro x hx; rw [hq x hx]; simp
 | some i =>
  rw [List.findIdx?_eq_some_iff_getElem] at hq
  obtain ⟨h1, h2, _⟩ := hq
  simp
  exact ⟨_, List.getElem_mem h1, h2⟩
theorem containsFuncI_sv {a : Option Addr} {cap : Nat} {l : List Int} {h : Heap} {g : FuncId} {first capv : List Value} {p : Int -> Bool} (hI : IntsAt h a l) (hbd : bodied Tryz.prog g = true)
  (hp : ∀ h1, Ext h h1 -> ∀ x ∈ l, Sv Tryz.prog g (first ++ ([i64 x] ++ capv)) h1 (RetP fun v h' => v = .bool (p x) /\ Ext h1 h')) (hlen : l.length < 9223372036854775808) :
  Sv Tryz.prog 48 [.slice a l.length cap, .func (.func g) ⟨first⟩ ⟨capv⟩] h (RetP fun v h' => v = .bool (l.any p) /\ Ext h h') := by
 refine Sv_enter Tryz.func48 rfl (by rw [Tryz.ntmps48]; rfl) ?_; show Wc Tryz.prog ⟨48, 9, none⟩ _ _ _ _ _
 refine zz ?_
 refine Wo_callE rfl rfl rfl rfl rfl Bod.h rfl rfl (indexFuncI_sv hI hbd hp hlen) fun h1 hE1 => ?_
 refine zz ?_
 refine Wo_dec rfl rfl rfl rfl (A_geq rfl rfl) (fun hb => ?_) (fun hb => ?_)
 ·refine zz ?_
  exact Wc_ret (Lv_ret rfl ⟨by rw [<- firstI_any, decide_eq_true hb]; rfl, hE1⟩)
 ·refine zz ?_
  exact Wc_ret (Lv_ret rfl ⟨by rw [<- firstI_any, decide_eq_false hb]; rfl, hE1⟩)
end Go.Dw
/- C2: contracts: names of chapter 01: strings.Split at one byte, strings.Trim at letters and digits. -/
namespace Go.Dw
open Go Go.Dx Go.Proofs
set_option maxRecDepth 100000
def alN (n : Nat) : Bool := (decide (97 <= n) && decide (n <= 122)) || (decide (48 <= n) && decide (n <= 57))
def al (c : UInt8) : Bool := alN c.toNat
def tabC : List Value := (List.range 256).map fun i => .bool (alN i)
def alnum : List UInt8 := [97, 98, 99, 100, 101, 102, 103, 104, 105, 106, 107, 108, 109, 110, 111, 112, 113, 114, 115, 116, 117, 118, 119, 120, 121, 122, 48, 49, 50, 51, 52, 53, 54, 55, 56, 57]
theorem tab0 : TabOK Tryz.prog [] := fun _ h => nomatch h
def trimR (l : List UInt8) : List UInt8 := (l.reverse.dropWhile al).reverse
def trimL (l : List UInt8) : List UInt8 := l.dropWhile al
def dash : UInt8 := 45
def splitD : List UInt8 -> List (List UInt8)
 | [] => [[]]
 | x :: l => if x = dash then [] :: splitD l else match splitD l with
  | [] => [[x]]
  | p :: ps => (x :: p) :: ps
end Go.Dw
/- C3: contracts: strings.Split at one byte; names (film.Name, telecineref01.Name). -/
namespace Go.Dw
open Go Go.Dx Go.Proofs
set_option maxRecDepth 100000
end Go.Dw
/- C4: contracts: names (film.Name, telecineref01.Name). -/
namespace Go.Dw
open Go Go.Dx Go.Proofs
set_option maxRecDepth 100000
def letB (c : UInt8) : Bool := decide (97 <= c.toNat /\ c.toNat <= 122)
def fstL : List UInt8 -> Bool
 | [] => false
 | c :: _ => letB c
def digB (c : UInt8) : Bool := decide (48 <= c.toNat /\ c.toNat <= 57)
def nameF (l : List UInt8) : Bool := decide (1 <= l.length /\ l.length <= 24) && fstL l && (splitD l).all fun p => !(decide (p = []) || !p.all al)
def okAt (l : List UInt8) (i : Nat) : Bool := match l[i]? with
 | none => true
 | some c => letB c || digB c || (decide (c = dash) && !(decide (l[i - 1]? = some dash)) && !decide (i + 1 = l.length))
def nameR (l : List UInt8) : Bool := decide (1 <= l.length /\ l.length <= 24) && fstL l && (List.range l.length).all (okAt l)
end Go.Dw
