/- Several texts in one. -/
import Derived.Test.YteafglginnonnaaGreatForceM
import Derived.Test.YteafglginnonnaaGreatSkyR
import Derived.Test.YteafglginnonnaaGreatRootR
import Derived.Test.YteafglginnonnaaGreatForceE
import Derived.Test.YteafglginnonnaaGreatRingF
/- The reference of package force: errors of drifts and questions, operations on spans. Conditions: what lies in memory. -/
set_option linter.unusedVariables false
set_option linter.unusedSimpArgs false
namespace Go.Proofs.YteafglginnonnaaGreat
open Go.RowKit Go.Shelf
end Go.Proofs.YteafglginnonnaaGreat
/- The reference of package force: vectors, distances, the pull of one body. Conditions: what lies in memory. -/
namespace Go.Proofs.YteafglginnonnaaGreat
open Go.RowKit Go.Shelf
end Go.Proofs.YteafglginnonnaaGreat
/- The reference of package force: the span of the numbers Mu x / q. Conditions: none. -/
namespace Go.Proofs.YteafglginnonnaaGreat
open Go.RowKit Go.Shelf
end Go.Proofs.YteafglginnonnaaGreat
