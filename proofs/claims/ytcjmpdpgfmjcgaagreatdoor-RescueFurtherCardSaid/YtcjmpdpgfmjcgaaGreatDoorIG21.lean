/- Y8: RescuePlans: its contract, for any workshop. -/
import Derived.Test.YtcjmpdpgfmjcgaaGreatDoorIG2
import Derived.Test.YtcjmpdpgfmjcgaaGreatDoorIG19
import Derived.Test.YtcjmpdpgfmjcgaaGreatDoorIG16
import Derived.Test.YtcjmpdpgfmjcgaaGreatDoorIG20
import Derived.Test.YtcjmpdpgfmjcgaaGreatDoorIG8
namespace Go.Dw
open Go Go.Dx Go.Proofs Go.Mt
set_option maxRecDepth 100000
theorem turnsG_len : ∀ (l : List Nat) (u : Task), (turnsG u l).length <= l.length
 | [], _ => Nat.le_refl _
 | r :: rest, u => by
  unfold turnsG
  split
  ·exact Nat.le_trans (turnsG_len rest u) (Nat.le_succ _)
  ·rw [List.length_cons, List.length_cons]; exact Nat.succ_le_succ (turnsG_len rest _)
theorem lateL_len (t : Task) : (lateL t).length <= t.reels.length := by
 unfold lateL lateN
 rw [List.length_map]
 exact Nat.le_trans (List.length_filter_le _ _) (by rw [List.length_range]; exact Nat.le_refl _)
theorem plan_lens (t : Task) : (planS t).1.length <= 24 /\ (planS t).2.1.length <= 24 /\ ∀ x ∈ (planS t).2.1, x.Fit := by
 by_cases c0 : errS t = 0
 rotate_left
 ·rw [planS_bad c0]
  exact ⟨Nat.zero_le _, Nat.zero_le _, fun x hx => (List.not_mem_nil hx).elim⟩
 rw [planS_ok c0]
 have hV := valid_of c0
 have hr := hV.r1
 refine ⟨?_, Nat.le_trans (lateL_len t) hr, fun x hx => ?_⟩
 ·have h1 := turnsG_len (keptS t) t
  have h2 : (keptS t).length = (keptI t).length := List.length_map _
  have h3 := keptI_len t
  show (turnsG t (keptS t)).length <= 24
  omega
 ·obtain ⟨r, hrl, rfl⟩ := List.mem_map.1 hx
  obtain ⟨h1, h2, _⟩ := late_law hV hrl
  have hrn : r < t.reels.length := List.mem_range.1 (List.mem_filter.1 hrl).1
  have h3 := nodup_le h1 fun x hx => (h2 x hx).1
  have h4 := (goT_sub t).length_le
  rw [(ordN_perm t).length_eq, List.length_range] at h4
  refine ⟨?_, ?_, fun n hn => ?_⟩
  ·show I64 ((r : Nat) : Int)
   constructor <;> omega
  ·show (sortI (ints (byOf t r))).length < 9223372036854775808
   rw [sortI_len, ints_len']; omega
  ·have hn : n ∈ sortI (ints (byOf t r)) := hn
   obtain ⟨q, hq, rfl⟩ := List.mem_map.1 (mem_sortI.1 hn)
   have := goT_lt (h2 q hq).1
   constructor <;> omega
end Go.Dw
/- Y9: RescueBest: its contract, for any workshop and turns. -/
namespace Go.Dw
open Go Go.Dx Go.Proofs Go.Mt
set_option maxRecDepth 100000
theorem plan_turns_fit {t : Task} (hV : Valid t) : ∀ x ∈ turnsG t (keptS t), x.Fit := fun x hx => by
 obtain ⟨h1, h2, -⟩ := turnsG_ok hV (keptS_pw t) (fun _ => keptS_lt) (keptS_fit t)
 obtain ⟨m0, m1, hp⟩ := h2 x hx
 have hr : x.reel ∈ ints (keptS t) := by rw [<- h1]; exact List.mem_map_of_mem hx
 obtain ⟨r, hr, e⟩ := List.mem_map.1 hr
 have hrl := keptS_lt hr
 have hrs := hV.rs _ (List.getElem_mem hrl)
 have f0 := hV.f0; have f1 := hV.f1; have d1 := hV.d1; have m4 := hV.m1; have r4 := hV.r1; have hla := hV.last
 have hp := of_decide_eq_true hp
 rw [<- e, reelAt_nat hrl] at hp
 refine ⟨?_, ?_, ?_⟩
 ·rw [<- e]; constructor <;> omega
 ·constructor <;> omega
 ·constructor <;> omega
end Go.Dw
