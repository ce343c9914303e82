/- How spans and areas that come in read, and how they are handed on. No conditions. -/
import Derived.Test.YtnaiaodnnmhdkaaGreatPost
import Derived.ChangeSame
namespace Go.Proofs.YtnaiaodnnmhdkaaGreat
set_option linter.unusedVariables false
set_option linter.unusedSimpArgs false
open Go.RowKit Go.WideShapes Go.ChangeShapes

theorem span_cells : Tryz.prog.cellsOf 38 = 2 := by kernel_rfl
section
open Go.Joins
variable {H : Type} {enc : TypeId × Value → H}
/-- two cells that read as a span -/
theorem trod_span {W : World} {base n : Nat} {spare : Nat → Bool} {held : Bool} {v0 v1 : Value} {x : DataW H × List MemPlace} (h : DataW.trod enc Tryz.prog W base spare held n 38 [v0, v1] = some x) :
    ∃ a b : Int, v0 = .int .i64 a ∧ v1 = .int .i64 b ∧ x = (.agg [.lit (.int .i64 a), .lit (.int .i64 b)], []) ∧ (Lit.int .i64 a).wf = true ∧ (Lit.int .i64 b).wf = true := by
  obtain ⟨y0, y1, m, rfl, _, h0, h1⟩ := trod_struct2 Tryz.underlying38 h
  obtain ⟨a, e0, rfl, wa⟩ := DataW.trod_int Tryz.underlying2 h0
  obtain ⟨b, e1, rfl, wb⟩ := DataW.trod_int Tryz.underlying2 h1
  have c1 : Tryz.prog.cellsOf 2 = 1 := by kernel_rfl
  simp [c1] at e0 e1
  subst e0 e1
  exact ⟨a, b, rfl, rfl, rfl, wa, wb⟩
end
end Go.Proofs.YtnaiaodnnmhdkaaGreat
