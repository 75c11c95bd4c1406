/- M1: contracts: records that are looked for; a further record. -/
import Derived.Test.YthlmgoefjmlndaaGreatDoorTG2
import Derived.Test.YthlmgoefjmlndaaGreatDoorTG20
import Derived.Test.YthlmgoefjmlndaaGreatDoorTG18
import Derived.Test.YthlmgoefjmlndaaGreatDoorTG8
set_option linter.unusedVariables false
set_option linter.unusedSimpArgs false
namespace Go.Dw
open Go Go.Dx Go.Proofs
set_option maxRecDepth 100000
end Go.Dw
namespace Go.Dw
open Go Go.Dx Go.Proofs
set_option maxRecDepth 100000
end Go.Dw
