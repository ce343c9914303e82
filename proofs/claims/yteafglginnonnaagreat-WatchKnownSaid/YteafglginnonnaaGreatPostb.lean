/- How spans and areas that come in read, and how they are handed on. No conditions. -/
import Derived.Test.YteafglginnonnaaGreatPost
import Derived.ChangeSame
namespace Go.Proofs.YteafglginnonnaaGreat
set_option linter.unusedVariables false
set_option linter.unusedSimpArgs false
open Go.RowKit Go.WideShapes Go.ChangeShapes
section
open Go.Joins
variable {H:Type} {enc:TypeId × Value → H}
end
end Go.Proofs.YteafglginnonnaaGreat
