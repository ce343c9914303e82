/- How spans and areas that come in read, and how they are handed on. No conditions. -/
import Derived.Test.YteafglginnonnaaGreatPost
import Derived.ChangeSame
set_option linter.unusedVariables false
set_option linter.unusedSimpArgs false
namespace Go.Proofs.YteafglginnonnaaGreat
open Go.RowKit Go.WideShapes Go.ChangeShapes
section
open Go.Joins
variable {H:Type} {enc:TypeId×Value→H}
end
end Go.Proofs.YteafglginnonnaaGreat
