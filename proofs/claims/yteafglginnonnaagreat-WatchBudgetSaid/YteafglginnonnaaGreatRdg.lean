/- Readings in memory; whether a cell is left by a reading. Conditions: what lies in memory. -/
import Derived.Test.YteafglginnonnaaGreatWof
set_option linter.unusedVariables false
set_option linter.unusedSimpArgs false
namespace Go.Proofs.YteafglginnonnaaGreat
open Go.RowKit Go.Shelf
end Go.Proofs.YteafglginnonnaaGreat
