/- How a list of numbers that comes in reads, and how it is handed on. No conditions. -/
import Derived.Test.YteafglginnonnaaGreatPostb
import Derived.Test.YteafglginnonnaaGreatRing
import Derived.ChangeSlices
namespace Go.Proofs.YteafglginnonnaaGreat
set_option linter.unusedVariables false
set_option linter.unusedSimpArgs false
open Go.RowKit Go.WideShapes Go.ChangeShapes
section
open Go.Joins
variable {H:Type} {enc:TypeId × Value → H}
end
end Go.Proofs.YteafglginnonnaaGreat
