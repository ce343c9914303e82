/- Several texts in one. -/
import Derived.Test.YteafglginnonnaaGreatForceM
import Derived.Test.YteafglginnonnaaGreatSkyR
import Derived.Test.YteafglginnonnaaGreatRefD
import Derived.Test.YteafglginnonnaaGreatRootR
import Derived.Test.YteafglginnonnaaGreatModk
import Derived.Test.YteafglginnonnaaGreatStore
/- The reference of package force: errors of drifts and questions, operations on spans. Conditions: what lies in memory. -/
namespace Go.Proofs.YteafglginnonnaaGreat
set_option linter.unusedVariables false
set_option linter.unusedSimpArgs false
open Go.RowKit Go.Shelf
end Go.Proofs.YteafglginnonnaaGreat
/- The reference of package force: vectors, distances, the pull of one body. Conditions: what lies in memory. -/
namespace Go.Proofs.YteafglginnonnaaGreat
set_option linter.unusedVariables false
set_option linter.unusedSimpArgs false
open Go.RowKit Go.Shelf
end Go.Proofs.YteafglginnonnaaGreat
/- The reference of package force: the span of the numbers Mu x / q. Conditions: none. -/
namespace Go.Proofs.YteafglginnonnaaGreat
set_option linter.unusedVariables false
set_option linter.unusedSimpArgs false
open Go.RowKit Go.Shelf
def mdR (mu:Int) (x q:Sp) (k:Nat):Sp:=mdP mu (if k / 2 = 0 then x.1 else x.2) (if k % 2 = 0 then q.1 else q.2)
def accR (m:Nat → Sp):Nat → Sp
 | 0=>(0,0)
 | 1=>m 0
 | k + 2=>hullP (accR m (k + 1)) (m (k + 1))
def ScS (w:World) (m:Nat → Sp) (x q:Sp) (j:Nat) (wr:World):Prop :=
 Up w wr ∧ Box wr (w.heap.size + 1) #[.int .i64 q.1,.int .i64 q.2] 31 ∧ Box wr (w.heap.size + 1 + 1) #[.int .i64 (0),.int .i64 (0)] 31 ∧ Box wr (w.heap.size + 1 + 1 + 1) #[.int .i64 (accR m j).1,.int .i64 (accR m j).2] 31 ∧ Box wr (w.heap.size + 1 + 1 + 1 + 1) #[.int .i64 x.1,.int .i64 x.2] 2
end Go.Proofs.YteafglginnonnaaGreat
