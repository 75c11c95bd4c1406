/- RunA: the chapter's example, Awake, as a closed run. -/
import Derived.Test.YtfgeelpahicelaaGreatDoorYRunN
import Derived.Test.YtfgeelpahicelaaGreatDoorYG3
set_option linter.unusedVariables false
set_option linter.unusedSimpArgs false
namespace Go.Dx
open Go.Proofs
set_option maxRecDepth 1000000
theorem ZNa:OrcT Tryz.prog spTab 182 [.string ⟨⟨[72,101,108,108,111,46]⟩⟩] (.string ⟨⟨[72,101,108,108,111,46]⟩⟩):=ZF8 (by decide) (by decide) (by decide)
theorem ZOp:OrcT Tryz.prog spTab 182 [.string ⟨⟨[89,101,115,46]⟩⟩] (.string ⟨⟨[89,101,115,46]⟩⟩):=ZF8 (by decide) (by decide) (by decide)
theorem t_no:OrcT Tryz.prog spTab 182 [.string ⟨⟨[78,111,63]⟩⟩] (.string ⟨⟨[78,111,63]⟩⟩):=ZF8 (by decide) (by decide) (by decide)
def tabS:List (Nat×List (List Value×Value)):=[(182,[([.string ⟨⟨[72,101,108,108,111,46]⟩⟩],.string ⟨⟨[72,101,108,108,111,46]⟩⟩),([.string ⟨⟨[89,101,115,46]⟩⟩],.string ⟨⟨[89,101,115,46]⟩⟩),([.string ⟨⟨[78,111,63]⟩⟩],.string ⟨⟨[78,111,63]⟩⟩)])]
theorem ZNg:ZLD Tryz.prog spTab tabS:=by
 intro p hp q hq;simp only[tabS,List.mem_singleton] at hp;subst hp;simp only[List.mem_cons,List.not_mem_nil,or_false] at hq
 rcases hq with rfl|rfl|rfl
 ·exact ZNa
 ·exact ZOp
 ·exact t_no
theorem awake:OrcT Tryz.prog spTab 23 [] (.bool true):=ZIg (V:=vt) (n:=100000) (g0:=11) (gl:=3) hmix ZM8 ZNg (by decide) (by decide) rfl rfl (fun t fz=>by kernel_rfl)
end Go.Dx
