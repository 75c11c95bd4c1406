/- V1: Hall's condition for reels, with no program in sight. -/
import Derived.Test.YtcjmpdpgfmjcgaaGreatDoorLG13
import Derived.Test.YtcjmpdpgfmjcgaaGreatDoorLG10
import Derived.Test.YtcjmpdpgfmjcgaaGreatDoorLG2
namespace Go.Dw
open Go Go.Dx Go.Proofs Go.Mt
abbrev fitP (t : Task) (l : List Int) : Prop := Fit (adjB t fun _ => false) (natsL l)
def InR (t : Task) (l : List Int) : Prop := ∀ x ∈ l, 0 <= x /\ x < t.reels.length
theorem InR.pos {t : Task} {l : List Int} (h : InR t l) : ∀ x ∈ l, 0 <= x := fun x hx => (h x hx).1
def remL (l : List Int) (n i : Nat) : List Int := l.take i ++ (l.drop (i + 1)).take (n - i)
open Classical in
noncomputable def tightL (t : Task) (l : List Int) (n k : Nat) : List Int := (List.range k).flatMap fun i => if fitP t (remL l n i) then [l.getD i 0] else []
end Go.Dw
/- V2: the contract of part: some of a list's numbers. -/
namespace Go.Dw
open Go Go.Dx Go.Proofs
set_option maxRecDepth 100000
end Go.Dw
