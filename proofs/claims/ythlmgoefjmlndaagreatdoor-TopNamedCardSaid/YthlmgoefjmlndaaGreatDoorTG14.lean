/- T1: merging in place (the stable sort of the library), with no program in sight: rotations; two sorted halves. -/
import Derived.Sort.LotA
set_option linter.unusedVariables false
set_option linter.unusedSimpArgs false
namespace Go.Sort
variable {α:Type} [Inhabited α]
variable {less lt:α->α->Bool}
end Go.Sort
