/- Several texts in one. -/
import Derived.Test.YteafglginnonnaaGreatRingK
import Derived.Test.YteafglginnonnaaGreatSkyQ
import Derived.Test.YteafglginnonnaaGreatTree
import Derived.Deep.AppendLies
/- A sky made of numbers: it lies in new blocks, and is small. Conditions: how often the ring was asked, and that what came in lies as it lay. -/
namespace Go.Proofs.YteafglginnonnaaGreat
set_option linter.unusedVariables false
set_option linter.unusedSimpArgs false
open Go.RowKit
def SkB (W:World) (B:Nat) (t:Int) (k:Nat) (wr:World):Prop :=
 RingAt W B (t + 34 - 11 * k) wr ∧ Box wr W.heap.size #[.slice none 0 0,.int .i64 0,.slice none 0 0,.slice none 0 0] 29 ∧
  ∃ (sv:Value) (bs:List Bod) (xs:List Value),Box wr (W.heap.size + 1) #[sv,.int .i64 0,.slice none 0 0,.slice none 0 0] 29 ∧ wr.ownsRow (W.heap.size + 2) 110 3 sv bs.length xs ∧
   RowOf 3 (RBod (fun b=>W.heap.size + 2 ≤ b ∧ sv.ownBlock ≠ some b) wr) bs xs ∧ (∀ b ∈ bs,SmallB b) ∧ bs.length + k ≤ 3 ∧ (k = 0 → 1 ≤ bs.length)
def SkT (W:World) (B:Nat) (n:Int) (w0:World) (b:Nat) (mu rad:Int) (j:Nat) (wr:World):Prop :=
 RingAt W B (n + 8 - 2 * j) wr ∧ Keeps (fun x=>W.heap.size ≤ x ∧ x < b) w0 wr ∧
  ∃ (tv:Value) (tr:List (Int × Int)) (ys:List Value),Box wr b #[.int .i64 mu,.int .i64 rad,tv] 110 ∧ wr.ownsRow (b + 1) 48 2 tv tr.length ys ∧
   RowOf 2 (RTwo wr) tr ys ∧ (∀ p ∈ tr,(-2000 ≤ p.1 ∧ p.1 ≤ 2000) ∧ -2000 ≤ p.2 ∧ p.2 ≤ 2000) ∧ tr.length + j ≤ 4 ∧ (j = 0 → 1 ≤ tr.length)
def SkS (W:World) (B:Nat) (n:Int) (w0:World) (vb:Value) (home:Int) (k:Nat) (id:Int) (wr:World):Prop :=
 RingAt W B (n + 9 - 3 * k) wr ∧ Keeps (fun x=>W.heap.size ≤ x ∧ x ≠ W.heap.size + 1 ∧ x < w0.heap.size) w0 wr ∧
  ∃ (sv:Value) (st:List (Int × Int × Int)) (xs:List Value),Box wr (W.heap.size + 1) #[vb,.int .i64 home,sv,.slice none 0 0] 29 ∧ wr.ownsRow w0.heap.size 112 3 sv st.length xs ∧
   RowOf 3 (RTri wr) st xs ∧ SmallSt st ∧ st.length + k ≤ 3 ∧ (k = 0 → 1 ≤ st.length) ∧ id = lastId st ∧ 0 ≤ id ∧ id ≤ 3 * st.length
def SkC (W:World) (B:Nat) (n:Int) (w0:World) (vb:Value) (home:Int) (vs:Value) (k:Nat) (id:Int) (wr:World):Prop :=
 RingAt W B (n + 12 - 4 * k) wr ∧ Keeps (fun x=>W.heap.size ≤ x ∧ x ≠ W.heap.size + 1 ∧ x < w0.heap.size) w0 wr ∧
  ∃ (sv:Value) (st:List (Int × Int × Int)) (xs:List Value),Box wr (W.heap.size + 1) #[vb,.int .i64 home,vs,sv] 29 ∧ wr.ownsRow w0.heap.size 114 3 sv st.length xs ∧
   RowOf 3 (RTri wr) st xs ∧ SmallCa st ∧ st.length + k ≤ 3 ∧ (k = 0 → 1 ≤ st.length) ∧ id = lastId st ∧ 0 ≤ id ∧ id ≤ 3 * st.length
end Go.Proofs.YteafglginnonnaaGreat
/- A copy of a world that shares no lists: it lies in new blocks, each track in a block of its own. Conditions: the world is small. -/
namespace Go.Proofs.YteafglginnonnaaGreat
set_option linter.unusedVariables false
set_option linter.unusedSimpArgs false
open Go.RowKit
def TrIn (W:World) (t:Nat) (tr:List (Int × Int)):Prop:=∃ T,Box W t T 48 ∧ ∀ k p,tr[k]? = some p → T[k * 2]? = some (.int .i64 p.1) ∧ T[k * 2 + 1]? = some (.int .i64 p.2)
def ROw (base:Nat) (sv:Value) (W:World) (x:Bod × Nat) (vs:List Value):Prop :=
 ∃ cap,vs = [.int .i64 x.1.mu,.int .i64 x.1.radius,.slice (some ⟨x.2,0,none⟩) x.1.track.length cap] ∧ (I64 x.1.mu ∧ I64 x.1.radius) ∧ base ≤ x.2 ∧ sv.ownBlock ≠ some x.2 ∧ TrIn W x.2 x.1.track
def flatV (tr:List (Int × Int)):List Value:=(tr.map fun p=>[Value.int .i64 p.1,Value.int .i64 p.2]).flatten
theorem TrIn.grown {W W':World} {t:Nat} {tr:List (Int × Int)} (h:TrIn W t tr) {row:Option Nat} (hg:W.grownBy W' row) (hr:row ≠ some t):TrIn W' t tr:=let ⟨T,h1,h2⟩:=h;⟨T,h1.grown hg hr,h2⟩
theorem TrIn.alloc {W:World} {t:Nat} {tr:List (Int × Int)} (h:TrIn W t tr) (o:Obj):TrIn (W.alloc o) t tr:=let ⟨T,h1,h2⟩:=h;⟨T,h1.alloc o,h2⟩
theorem TrIn.other {W:World} {t:Nat} {tr:List (Int × Int)} (h:TrIn W t tr) {b:Nat} (hb:t ≠ b) (i:Nat) (v:Value):TrIn (W.setCell ⟨b,i,none⟩ v) t tr:=let ⟨T,h1,h2⟩:=h;⟨T,h1.other hb i v,h2⟩
theorem TrIn.lt {W:World} {t:Nat} {tr:List (Int × Int)} (h:TrIn W t tr):t < W.heap.size:=let ⟨_,h1,_⟩:=h;h1.lt
theorem TrIn.up {W W':World} {t:Nat} {tr:List (Int × Int)} (h:TrIn W t tr) (hu:Up W W'):TrIn W' t tr:=let ⟨T,h1,h2⟩:=h;⟨T,h1.up hu,h2⟩
theorem stopA {P:Program} {ops:Array Oper} {Q:Exit → Act → World → Prop} {o:Oper} {rest:List Oper} {a:Act} {w:World} {ar:Array Operand} {ts:Array TypeId} (_:o.op = .call { callee:=.builtin .append,args:=ar,argTypes:=ts }) (h:Hid (wpList P ops Q (o :: rest) a w)):wpList P ops Q (o :: rest) a w:=h.out
def OwS (w:World) (a:Option Addr) (n c:Nat) (home:Int) (bs:List Bod) (k:Nat) (sv:Value) (wr:World):Prop :=
 Up w wr ∧ Box wr w.heap.size #[.slice a n c,.int .i64 home] 25 ∧ Box wr (w.heap.size + 1) #[.slice none 0 0,.int .i64 0] 25 ∧
  ∃ (els:List (Bod × Nat)) (xs:List Value),wr.ownsRow (w.heap.size + 2) 110 3 sv els.length xs ∧ RowOf 3 (ROw (w.heap.size + 2) sv wr) els xs ∧ els.map Prod.fst = bs.take k ∧ els.length = k ∧ (els.map Prod.snd).Nodup
end Go.Proofs.YteafglginnonnaaGreat
