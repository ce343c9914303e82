/- Several texts in one. -/
import Derived.Test.YteafglginnonnaaGreatFRefS
import Derived.Test.YteafglginnonnaaGreatForceG
import Derived.Test.YteafglginnonnaaGreatEnergy
/- The reference of package force: the pull of one body; a question about it. Conditions: what lies in memory. -/
set_option linter.unusedVariables false
set_option linter.unusedSimpArgs false
namespace Go.Proofs.YteafglginnonnaaGreat
open Go.RowKit Go.Shelf
end Go.Proofs.YteafglginnonnaaGreat
/- The reference of package force: questions about one body, light, heat. Conditions: what lies in memory. -/
namespace Go.Proofs.YteafglginnonnaaGreat
open Go.RowKit Go.Shelf
end Go.Proofs.YteafglginnonnaaGreat
