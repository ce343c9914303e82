/- Blocks of cells known whole, through growth, stores and what a loop's book-keeping turns. -/
import Derived.Test.YtnaiaodnnmhdkaaGreatSeq
namespace Go.Proofs.YtnaiaodnnmhdkaaGreat
set_option linter.unusedVariables false
set_option linter.unusedSimpArgs false
open Go.RowKit

/-- block b is a block of cells, not frozen, and these they are -/
def Box (w : World) (b : Nat) (c : Array Value) (t : TypeId) : Prop := w.heap[b]? = some (.cells c t (0, 0))
theorem Box.lt {w : World} {b : Nat} {c : Array Value} {t : TypeId} (h : Box w b c t) : b < w.heap.size := (Array.getElem?_eq_some_iff.1 h).1
theorem Box.cell {w : World} {b : Nat} {c : Array Value} {t : TypeId} (h : Box w b c t) (i : Nat) {v : Value} (hv : c[i]? = some v) : w.cell? ⟨b, i, none⟩ = some v := by
  unfold World.cell?
  rw [show w.heap[(⟨b, i, none⟩ : Addr).block]? = some (.cells c t (0, 0)) from h]
  simpa using hv
theorem Box.frozen {w : World} {b : Nat} {c : Array Value} {t : TypeId} (h : Box w b c t) (i : Nat) : w.frozen? ⟨b, i, none⟩ = false := by
  unfold World.frozen?
  rw [show w.heap[(⟨b, i, none⟩ : Addr).block]? = some (.cells c t (0, 0)) from h]
  simp
theorem Box.new (w : World) (c : Array Value) (t : TypeId) : Box (w.alloc (.cells c t)) w.heap.size c t := World.alloc_heap_new w _
theorem Box.mk {w : World} {b : Nat} {c : Array Value} {t : TypeId} (h : w.heap.size = b) : Box (w.alloc (.cells c t)) b c t := by subst h; exact Box.new w c t
theorem Box.up {w w' : World} {b : Nat} {c : Array Value} {t : TypeId} (h : Box w b c t) (hu : Up w w') : Box w' b c t := (hu.below.block b h.lt).trans h
theorem Box.alloc {w : World} {b : Nat} {c : Array Value} {t : TypeId} (h : Box w b c t) (o : Obj) : Box (w.alloc o) b c t := h.up ((Up.refl _).alloc _)
theorem Box.ext {w : World} {b : Nat} {c : Array Value} {t : TypeId} (h : Box w b c t) (p : Ext) : Box (Go.Proofs.YtnaiaodnnmhdkaaGreat.ext w p) b c t := h.up ((Up.refl _).ext _)
theorem Box.drew {w : World} {b : Nat} {c : Array Value} {t : TypeId} (h : Box w b c t) : Box w.drew b c t := h.up (Up.refl _).drew
theorem Box.two {w : World} {b : Nat} {x y : Value} {t : TypeId} (h : Box w b #[x, y] t) : w.cell? ⟨b, 0, none⟩ = some x ∧ w.cell? ⟨b, 1, none⟩ = some y := ⟨h.cell 0 rfl, h.cell 1 rfl⟩
theorem Box.four {w : World} {b : Nat} {x y z u : Value} {t : TypeId} (h : Box w b #[x, y, z, u] t) : (w.cell? ⟨b, 0, none⟩ = some x ∧ w.cell? ⟨b, 1, none⟩ = some y) ∧ w.cell? ⟨b, 2, none⟩ = some z ∧ w.cell? ⟨b, 3, none⟩ = some u := ⟨⟨h.cell 0 rfl, h.cell 1 rfl⟩, h.cell 2 rfl, h.cell 3 rfl⟩
theorem Box.set {w : World} {b : Nat} {c : Array Value} {t : TypeId} (h : Box w b c t) (i : Nat) (v : Value) : Box (w.setCell ⟨b, i, none⟩ v) b (c.setIfInBounds i v) t := by
  unfold Box World.setCell
  rw [Array.getElem?_modify, if_pos rfl]
  rw [show w.heap[b]? = some (.cells c t (0, 0)) from h]
  simp
theorem Box.other {w : World} {b b' : Nat} {c : Array Value} {t : TypeId} (h : Box w b c t) (hne : b ≠ b') (i : Nat) (v : Value) : Box (w.setCell ⟨b', i, none⟩ v) b c t :=
  (Below.heap_setCell w _ v b hne).trans h
theorem Box.put {w : World} {b D : Nat} {c : Array Value} {t : TypeId} (h : Box w b c t) (hne : b ≠ D) (o : Obj) : Box (w.putObj D o) b c t := (World.putObj_heap_other hne).trans h
theorem below_put {a w : World} {D : Nat} (h : Below a.heap.size a w) (hD : a.heap.size ≤ D) (o : Obj) : Below a.heap.size a (w.putObj D o) :=
  h.grown (grownBy_putObj' w D o) h.size (fun k e => by cases e; exact hD)
theorem Box.grown {w w' : World} {row : Option Nat} {b : Nat} {c : Array Value} {t : TypeId} (h : Box w b c t) (hg : w.grownBy w' row) (hr : row ≠ some b) : Box w' b c t :=
  (hg.block b h.lt (Ne.symm hr)).trans h

theorem Up.trans_below {w w' : World} {B : Nat} (h : Up w w') (hB : B ≤ w.heap.size) : Below B w w' := h.below.mono hB
theorem keepsOthers_up {w w' : World} (h : Up w w') : KeepsOthers w w' :=
  ⟨h.below.size, fun k o ho _ => (h.below.block k (Array.getElem?_eq_some_iff.1 ho).1).trans ho⟩
theorem keepsOthers_set (w : World) (b i : Nat) (v : Value) : KeepsOthers w (w.setCell ⟨b, i, none⟩ v) := KeepsOthers.setCell _ _ _

/-- Only block O, and what is new. -/
theorem grown_up {a w w' : World} {row : Option Nat} (h : a.grownBy w row) (k : Up w w') : a.grownBy w' row :=
  ⟨k.below.os.trans h.os, k.below.tape.trans h.tape, k.below.output.trans h.output, Nat.le_trans h.size k.below.size, fun i hi hne => (k.below.block i (Nat.lt_of_lt_of_le hi h.size)).trans (h.block i hi hne)⟩
theorem grown_set {a w : World} {O : Nat} (h : a.grownBy w (some O)) (i : Nat) (v : Value) : a.grownBy (w.setCell ⟨O, i, none⟩ v) (some O) :=
  ⟨h.os, h.tape, h.output, by simpa [World.setCell] using h.size, fun k hk hne => (Below.heap_setCell w _ v k (fun e => hne (by rw [show k = O from e]))).trans (h.block k hk hne)⟩
theorem grown_turn {a w w' : World} {row row' : Option Nat} (h : a.grownBy w row) (hg : w.grownBy w' row') (hr : ∀ r, row' = some r → a.heap.size ≤ r) : a.grownBy w' row :=
  ⟨hg.os.trans h.os, hg.tape.trans h.tape, hg.output.trans h.output, Nat.le_trans h.size hg.size, fun k hk hne => (hg.block k (Nat.lt_of_lt_of_le hk h.size) (fun e => by have := hr k e.symm; omega)).trans (h.block k hk hne)⟩
theorem grown_refl (a : World) (row : Option Nat) : a.grownBy a row := ⟨rfl, rfl, rfl, Nat.le_refl _, fun _ _ _ => rfl⟩
theorem below_of_grown {a w w' : World} {O : Nat} (h : Below a.heap.size a w) (hg : w.grownBy w' (some O)) (hO : a.heap.size ≤ O) : Below a.heap.size a w' :=
  h.grown hg h.size (fun k e => by cases e; exact hO)
end Go.Proofs.YtnaiaodnnmhdkaaGreat
