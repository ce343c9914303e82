/- The reference of package force: all that moves a body in an area, at a place. Conditions: what lies in memory. -/
import Derived.Test.YteafglginnonnaaGreatFRefC
import Derived.Test.YteafglginnonnaaGreatSpanB
import Derived.Test.YteafglginnonnaaGreatOwn
set_option linter.unusedVariables false
set_option linter.unusedSimpArgs false
namespace Go.Proofs.YteafglginnonnaaGreat
open Go.RowKit Go.Shelf
end Go.Proofs.YteafglginnonnaaGreat
