/- RW: reading records, with their weights. -/
import Derived.OpenShut
import Derived.Test.YthlmgoefjmlndaaGreatDoorVG20
import Derived.Test.YthlmgoefjmlndaaGreatDoorVG12
set_option linter.unusedVariables false
set_option linter.unusedSimpArgs false
namespace Go.Dw
open Go Go.Dx Go.Proofs
set_option maxRecDepth 100000
section
variable {P:Program}{H:Type}{enc:TypeId×Value->H}{W:World}{cs:List Value}{t e:TypeId}
end
section
variable {P:Program}{H:Type}{enc:TypeId×Value->H}{W:World}{cs:List Value}{t e:TypeId}
end
section
variable {P:Program}{H:Type}{enc:TypeId×Value->H}{W:World}{cs:List Value}{t e:TypeId}
end
end Go.Dw
