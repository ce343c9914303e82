/- Several texts in one. -/
import Derived.Test.YtnaiaodnnmhdkaaSeq
import Derived.OwnWalkIn
import Derived.TacticsInMore
import Derived.LoopNIn
import Derived.LoopIn
import Derived.Shelf.Abstract
import Derived.Test.YtnaiaodnnmhdkaaBox
import Derived.Test.YtnaiaodnnmhdkaaSkyP
/- The four pairs of ends of two spans: what pairs hands back, and what ranging over it gives. No conditions. -/
namespace Go.Proofs.Ytnaiaodnnmhdkaa
set_option linter.unusedVariables false
set_option linter.unusedSimpArgs false
open Go.RowKit Go.Shelf

attribute [local go_sem] Oper.semAt_some

/-- block B of cells is left as it lies -/
def KeepsBlock (B : Nat) (W W' : World) : Prop := W'.heap[B]? = W.heap[B]?
theorem KeepsBlock.trans {B : Nat} {X Y Z : World} (h : KeepsBlock B X Y) (k : KeepsBlock B Y Z) : KeepsBlock B X Z := Eq.trans k h

theorem KeepsBlock.cell {B : Nat} {W W' : World} (h : KeepsBlock B W W') (o : Nat) : W'.cell? ⟨B, o, none⟩ = W.cell? ⟨B, o, none⟩ := World.cell?_of_block (a := ⟨B, o, none⟩) h

def four (a b c d : Int) : List (Int × Int) := [(a, c), (a, d), (b, c), (b, d)]
def at2 (a b : Int) (k : Nat) : Int := if k = 0 then a else b

theorem four_step (a b c d : Int) (k j : Nat) (hk : k < 2) (hj : j < 2) : (four a b c d).take (2 * k + j) ++ [(at2 a b k, at2 c d j)] = (four a b c d).take (2 * k + (j + 1)) := by
  have h1 : k = 0 ∨ k = 1 := by omega
  have h2 : j = 0 ∨ j = 1 := by omega
  rcases h1 with rfl | rfl <;> rcases h2 with rfl | rfl <;> rfl
theorem four_next (a b c d : Int) (k j : Nat) (hk : k < 2) (hj : j < 2) : (four a b c d).take (2 * k + j) ++ [(at2 a b k, at2 c d j)] <+: four a b c d := by
  rw [four_step a b c d k j hk hj]; exact List.take_prefix _ _
end Go.Proofs.Ytnaiaodnnmhdkaa

/- combine: the span of an operation over the ends of two spans. -/
namespace Go.Proofs.Ytnaiaodnnmhdkaa
set_option linter.unusedVariables false
set_option linter.unusedSimpArgs false
open Go.RowKit Go.Shelf

attribute [local go_sem] Oper.semAt_some

abbrev OpE := Int → Int → Int × Int × Int
/-- what has been gathered of some pairs -/
def acc (op : OpE) (l : List (Int × Int)) : Int × Int := l.foldl (fun s x => (min s.1 (op x.1 x.2).1, max s.2 (op x.1 x.2).2.1)) (1152921504606846976, -1152921504606846976)
theorem acc_snoc (op : OpE) (l : List (Int × Int)) (x : Int × Int) : acc op (l ++ [x]) = (min (acc op l).1 (op x.1 x.2).1, max (acc op l).2 (op x.1 x.2).2.1) := by simp [acc]
/-- the first error among some pairs; 0: none -/
def err (op : OpE) (l : List (Int × Int)) : Int := match l with
  | [] => 0
  | x :: l => if (op x.1 x.2).2.2 = 0 then err op l else (op x.1 x.2).2.2
theorem err_zero (op : OpE) (l : List (Int × Int)) (x : Int × Int) (h : err op l = 0) : err op (l ++ [x]) = (op x.1 x.2).2.2 := by
  induction l with
  | nil => simp only [List.nil_append, err]; split <;> simp_all
  | cons y l ih => simp only [List.cons_append, err] at h ⊢; split <;> simp_all
theorem err_pre (op : OpE) (l m : List (Int × Int)) (h : err op l ≠ 0) : err op (l ++ m) = err op l := by
  induction l with
  | nil => simp [err] at h
  | cons y l ih => simp only [List.cons_append, err] at h ⊢; split <;> simp_all

def combE (op : OpE) (a b c d : Int) : Int × Int × Int :=
  if validE a b c d = 0 then (if err op (four a b c d) = 0 then ((acc op (four a b c d)).1, (acc op (four a b c d)).2, 0) else (0, 0, err op (four a b c d))) else (0, 0, validE a b c d)

end Go.Proofs.Ytnaiaodnnmhdkaa

