/- G1: contracts: the document's look at records. -/
import Derived.Test.YtdfadhkbhbbabaaGreatDoorAG20
set_option linter.unusedVariables false
set_option linter.unusedSimpArgs false
namespace Go.Dw
open Go Go.Dx Go.Proofs
set_option maxRecDepth 100000
end Go.Dw
