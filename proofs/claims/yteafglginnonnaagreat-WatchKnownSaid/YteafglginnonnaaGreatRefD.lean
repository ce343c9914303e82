/- Several texts in one. -/
import Derived.Test.YteafglginnonnaaGreatW6b
import Derived.Test.YteafglginnonnaaGreatForceM
import Derived.Test.YteafglginnonnaaGreatRootR
/- The values of the chapter's examples of layer 6. No conditions. -/
namespace Go.Proofs.YteafglginnonnaaGreat
set_option linter.unusedVariables false
set_option linter.unusedSimpArgs false
open Go.RowKit Go.Shelf
def noDr:DriftD:=⟨(0,0),(0,0),0⟩
def kboxA:BoxD:=⟨30,33,40,44,0,0,0,0⟩
def kboxB:BoxD:=⟨60,61,0,0,0,0,0,0⟩
theorem kn_f1:fieldV shownS radarO (60,80) = true:=by decide +kernel
theorem kn_f2:fieldV shownS radarO (61,80) = false:=by decide +kernel
theorem kn_f3:fieldV shownS scopeO (100,50) = true:=by decide +kernel
theorem kn_f4:fieldV shownS scopeO (100,51) = false:=by decide +kernel
theorem kn_r1:readsV shownS scopeO (100,10) = ((99000,101000),true):=by decide +kernel
theorem kn_r2:readsV shownS scopeO (-5,0) = ((0,0),false):=by decide +kernel
theorem kn_v:viewV shownS radarO (30,33,40,44) = ((true,true,48,57),0):=by decide +kernel
theorem kn_a1:apartV shownS radarO (30,33,40,44) (60,61,0,0) = true:=by decide +kernel
theorem kn_a2:apartV shownS radarO (30,33,40,44) (200,201,0,0) = true:=by decide +kernel
theorem kn_w1:worstV shownS noDr 0 [kboxA,kboxB] [radarO] [0] 3 = (1,0):=by decide +kernel
theorem kn_w2:worstV shownS noDr 0 [kboxA,kboxB] [radarO] [] 3 = (2,0):=by decide +kernel
end Go.Proofs.YteafglginnonnaaGreat
/- Signs of cross and dot products: those of the exact numbers, in the program. Numbers that fit 64 bits. -/
namespace Go.Proofs.YteafglginnonnaaGreat
set_option linter.unusedVariables false
set_option linter.unusedSimpArgs false
open Go.RowKit
def sgnI (x:Int):Int:=if x < 0 then -1 else if x = 0 then 0 else 1
end Go.Proofs.YteafglginnonnaaGreat
/- The document's own bisection for how near a segment comes. -/
namespace Go.Proofs.YteafglginnonnaaGreat
set_option linter.unusedVariables false
set_option linter.unusedSimpArgs false
open Go.RowKit
end Go.Proofs.YteafglginnonnaaGreat
/- Signs of cross and dot products: those of the exact numbers, in the document. Numbers that fit 64 bits. -/
namespace Go.Proofs.YteafglginnonnaaGreat
set_option linter.unusedVariables false
set_option linter.unusedSimpArgs false
open Go.RowKit
def cmpR (n:Bool) (h l:Int) (n':Bool) (h' l':Int):Int:=if n = true ∧ n' = false then -1 else if n = false ∧ n' = true then 1 else if n = true then orderW h' l' h l else orderW h l h' l'
end Go.Proofs.YteafglginnonnaaGreat
/- The document's quotient of a wide product, and its MulDiv: what they return. Conditions: the words' ranges, a divisor that is not 0. -/
namespace Go.Proofs.YteafglginnonnaaGreat
set_option linter.unusedVariables false
set_option linter.unusedSimpArgs false
open Go.RowKit
end Go.Proofs.YteafglginnonnaaGreat
/- The document's own gathering over the corners of two spans: products, quotients. Conditions: the ends' ranges; divisors that are not 0. -/
namespace Go.Proofs.YteafglginnonnaaGreat
set_option linter.unusedVariables false
set_option linter.unusedSimpArgs false
open Go.RowKit
def opR (o:Bool):OpE:=fun x y=>if o = true then mdE x y else mdE (x * y) 1
theorem mdE_bdR (p c:Int) (h:(mdE p c).2.2 = 0):-1152921504606846976 ≤ (mdE p c).1 ∧ (mdE p c).1 ≤ 1152921504606846976 ∧ -1152921504606846976 ≤ (mdE p c).2.1 ∧ (mdE p c).2.1 ≤ 1152921504606846976:=by
 unfold mdE at h ⊢;split
 · assumption
 · rename_i h1;rw [if_neg h1] at h;simp at h
theorem opR_bd (o:Bool) (x y:Int) (h:(opR o x y).2.2 = 0):-1152921504606846976 ≤ (opR o x y).1 ∧ (opR o x y).1 ≤ 1152921504606846976 ∧ -1152921504606846976 ≤ (opR o x y).2.1 ∧ (opR o x y).2.1 ≤ 1152921504606846976:=by
 unfold opR at h ⊢;split
 · rename_i h1;rw [if_pos h1] at h;exact mdE_bdR _ _ h
 · rename_i h1;rw [if_neg h1] at h;exact mdE_bdR _ _ h
def corR (o:Bool) (a b c d:Int):Int × Int × Int :=
 if err (opR o) (four a b c d) = 0 then ((acc (opR o) (four a b c d)).1,(acc (opR o) (four a b c d)).2,0) else (0,0,14)
structure Cor (op:OpE) (a b c d:Int) (n:Nat) (f:Bool) (x y:Int):Prop where
 first:f = decide (n = 0)
 none:err op ((four a b c d).take n) = 0
 out:n = 0 ∨ (x,y) = acc op ((four a b c d).take n)
theorem Cor.start (op:OpE) (a b c d x y:Int):Cor op a b c d 0 true x y:=⟨rfl,rfl,.inl rfl⟩
theorem Cor.step {o:Bool} {a b c d:Int} {k j:Nat} {f:Bool} {x y:Int} (h:Cor (opR o) a b c d (2 * k + j) f x y) (hk:k < 2) (hj:j < 2) (he:(opR o (at2 a b k) (at2 c d j)).2.2 = 0) {x' y':Int}
 (hx:x' = if f = true ∨ (opR o (at2 a b k) (at2 c d j)).1 < x then (opR o (at2 a b k) (at2 c d j)).1 else x) (hy:y' = if f = true ∨ y < (opR o (at2 a b k) (at2 c d j)).2.1 then (opR o (at2 a b k) (at2 c d j)).2.1 else y) :
 Cor (opR o) a b c d (2 * k + (j + 1)) false x' y':=by
 have hb:=opR_bd o _ _ he
 refine ⟨by simp,?_,.inr ?_⟩
 · rw [← four_step a b c d k j hk hj,err_zero _ _ _ h.none];exact he
 · rw [← four_step a b c d k j hk hj,acc_snoc]
   rcases h.out with h0 | h0
   · have hf:f = true:=by rw [h.first,h0];rfl
     rw [h0,hx,hy,hf]
     simp only [List.take_zero,acc,List.foldl_nil,true_or,if_true]
     rw [show min 1152921504606846976 (opR o (at2 a b k) (at2 c d j)).1 = (opR o (at2 a b k) (at2 c d j)).1 by omega,show max (-1152921504606846976) (opR o (at2 a b k) (at2 c d j)).2.1 = (opR o (at2 a b k) (at2 c d j)).2.1 by omega]
   · rw [← h0,hx,hy]
     rcases Nat.eq_zero_or_pos (2 * k + j) with hz | hz
     · have hf:f = true:=by rw [h.first,hz];rfl
       rw [hz] at h0
       simp only [List.take_zero,acc,List.foldl_nil,Prod.mk.injEq] at h0
       rw [hf];simp only [true_or,if_true]
       congr 1 <;> omega
     · have hf:f = false:=by rw [h.first];simp;omega
       rw [hf]
       simp only [Bool.false_eq_true,false_or]
       congr 1 <;> (split <;> omega)
theorem Cor.done {o:Bool} {a b c d:Int} {f:Bool} {x y:Int} (h:Cor (opR o) a b c d 4 f x y):corR o a b c d = (x,y,0):=by
 have h1:=h.none
 have h2:=h.out.resolve_left (by omega)
 rw [show (four a b c d).take 4 = four a b c d from rfl] at h1 h2
 unfold corR;rw [if_pos h1,← h2]
structure CorBox (w wr:World) (a b c d x y:Int):Prop where
 up:Up w wr
 b0:Box wr w.heap.size #[.int .i64 a,.int .i64 b] 31
 b1:Box wr (w.heap.size + 1) #[.int .i64 c,.int .i64 d] 31
 b2:Box wr (w.heap.size + 1 + 1) #[.int .i64 0,.int .i64 0] 31
 b3:Box wr (w.heap.size + 1 + 1 + 1) #[.int .i64 x,.int .i64 y] 31
 b4:Box wr (w.heap.size + 1 + 1 + 1 + 1) #[.int .i64 a,.int .i64 b] 2
theorem CorBox.far {w wr:World} {a b c d x y:Int} (h:CorBox w wr a b c d x y) {B:Nat} (hB:w.heap.size + 1 + 1 + 1 + 1 < B) (i:Nat) (v:Value):CorBox w (wr.setCell ⟨B,i,none⟩ v) a b c d x y :=
 ⟨h.up.setCell (by simp;omega) _,h.b0.other (by omega) _ _,h.b1.other (by omega) _ _,h.b2.other (by omega) _ _,h.b3.other (by omega) _ _,h.b4.other (by omega) _ _⟩
end Go.Proofs.YteafglginnonnaaGreat
/- The document's own products, squares and quotients of spans: what they return. No conditions. -/
namespace Go.Proofs.YteafglginnonnaaGreat
set_option linter.unusedVariables false
set_option linter.unusedSimpArgs false
open Go.RowKit
end Go.Proofs.YteafglginnonnaaGreat
