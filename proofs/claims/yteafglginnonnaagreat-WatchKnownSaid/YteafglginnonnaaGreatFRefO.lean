/- The reference of package force: all that moves a body in an area, at a place. Conditions: what lies in memory. -/
import Derived.Test.YteafglginnonnaaGreatFRefC
import Derived.Test.YteafglginnonnaaGreatSpanB
import Derived.Test.YteafglginnonnaaGreatOwn
namespace Go.Proofs.YteafglginnonnaaGreat
set_option linter.unusedVariables false
set_option linter.unusedSimpArgs false
open Go.RowKit Go.Shelf
def RAre (p:Ar) (vs:List Value):Prop:=vs = [.int .i64 p.1,.int .i64 p.2.1,.int .i64 p.2.2.1,.int .i64 p.2.2.2]
def partsR (L H:Ar) (bs:List Bod) (t:Int) (a:Ar):List Ar:=L :: H :: bs.map (pullB t a)
def OvS (w:World) (a:Option Addr) (n c:Nat) (home l1 l2 k1 k2 g x0 x1 y0 y1:Int) (G Z:Nat) (PS:List Ar) (i:Nat) (sv:Value) (wr:World):Prop :=
 Up w wr ∧ Box wr w.heap.size #[.slice a n c,.int .i64 home] 25 ∧ Box wr (w.heap.size + 1) #[.int .i64 (l1),.int .i64 (l2),.int .i64 (k1),.int .i64 (k2),.int .i64 (g)] 33 ∧ Box wr (w.heap.size + 1 + 1) #[.int .i64 (x0),.int .i64 (x1),.int .i64 (y0),.int .i64 (y1)] 61 ∧ Box wr (w.heap.size + 1 + 1 + 1) #[.int .i64 (0),.int .i64 (0),.int .i64 (0),.int .i64 (0)] 61 ∧ Box wr (G + 1) #[.int .i64 (-g),.int .i64 (g),.int .i64 (-g),.int .i64 (g)] 61 ∧ Z ≤ wr.heap.size ∧ ∃ xs,wr.ownsRow Z 61 4 sv (2 + i) xs ∧ RowOf 4 RAre (PS.take (2 + i)) xs
end Go.Proofs.YteafglginnonnaaGreat
