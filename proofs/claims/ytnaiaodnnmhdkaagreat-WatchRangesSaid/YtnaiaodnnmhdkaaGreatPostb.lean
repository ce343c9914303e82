/- How spans and areas that come in read, and how they are handed on. No conditions. -/
import Derived.Test.YtnaiaodnnmhdkaaGreatPost
import Derived.ChangeSame
namespace Go.Proofs.YtnaiaodnnmhdkaaGreat
set_option linter.unusedVariables false
set_option linter.unusedSimpArgs false
open Go.RowKit Go.WideShapes Go.ChangeShapes

theorem span_cells : Tryz.prog.cellsOf 38 = 2 := by kernel_rfl
theorem area_cells : Tryz.prog.cellsOf 46 = 4 := by kernel_rfl

section
open Go.Joins
variable {H : Type} {enc : TypeId × Value → H}
set_option maxRecDepth 100000 in
theorem open_span {W : World} {base b0 : Nat} {r : Reach} {spare : Nat → Bool} {held : Bool} {v : Value} {d : DataW H} {p : List MemPlace} (hv : Value.okWide Tryz.prog W r b0 38 v) (h : DataW.Trod enc Tryz.prog W base spare held 38 v d p) :
    ∃ x y : Int, v = .agg #[.int .i64 x, .int .i64 y] ∧ d = .agg [.lit (.int .i64 x), .lit (.int .i64 y)] ∧ p = [] ∧ (Lit.int .i64 x).wf = true ∧ (Lit.int .i64 y).wf = true := by
  obtain ⟨c0, c1, y0, y1, m, rfl, rfl, rfl, hy0, hy1⟩ := open_agg2 Tryz.underlying38 (by kernel_rfl) span_cells hv h
  obtain ⟨a, e0, rfl, wa⟩ := DataW.trod_int Tryz.underlying2 hy0
  obtain ⟨b, e1, rfl, wb⟩ := DataW.trod_int Tryz.underlying2 hy1
  simp at e0 e1
  subst e0 e1
  exact ⟨a, b, rfl, rfl, rfl, wa, wb⟩
set_option maxRecDepth 100000 in
theorem shut_span {W' : World} {base : Nat} {spare : Nat → Bool} {held : Bool} {x y : Int} (wx : (Lit.int .i64 x).wf = true) (wy : (Lit.int .i64 y).wf = true) :
    DataW.Trod enc Tryz.prog W' base spare held 38 (.agg #[.int .i64 x, .int .i64 y]) (.agg [.lit (.int .i64 x), .lit (.int .i64 y)]) [] :=
  shut_agg2 (y0 := (.lit (.int .i64 x), [])) (y1 := (.lit (.int .i64 y), [])) Tryz.underlying38 (by kernel_rfl) span_cells ⟨1, by simp [DataW.trod, Tryz.underlying2, wx]⟩ ⟨1, by simp [DataW.trod, Tryz.underlying2, wy]⟩

/-- two cells that read as a span -/
theorem trod_span {W : World} {base n : Nat} {spare : Nat → Bool} {held : Bool} {v0 v1 : Value} {x : DataW H × List MemPlace} (h : DataW.trod enc Tryz.prog W base spare held n 38 [v0, v1] = some x) :
    ∃ a b : Int, v0 = .int .i64 a ∧ v1 = .int .i64 b ∧ x = (.agg [.lit (.int .i64 a), .lit (.int .i64 b)], []) ∧ (Lit.int .i64 a).wf = true ∧ (Lit.int .i64 b).wf = true := by
  obtain ⟨y0, y1, m, rfl, _, h0, h1⟩ := trod_struct2 Tryz.underlying38 h
  obtain ⟨a, e0, rfl, wa⟩ := DataW.trod_int Tryz.underlying2 h0
  obtain ⟨b, e1, rfl, wb⟩ := DataW.trod_int Tryz.underlying2 h1
  have c1 : Tryz.prog.cellsOf 2 = 1 := by kernel_rfl
  simp [c1] at e0 e1
  subst e0 e1
  exact ⟨a, b, rfl, rfl, rfl, wa, wb⟩
theorem trod_span_mk {W : World} {base : Nat} {spare : Nat → Bool} {held : Bool} {a b : Int} (wa : (Lit.int .i64 a).wf = true) (wb : (Lit.int .i64 b).wf = true) :
    DataW.trod enc Tryz.prog W base spare held 2 38 [.int .i64 a, .int .i64 b] = some (.agg [.lit (.int .i64 a), .lit (.int .i64 b)], []) := by
  have c1 : Tryz.prog.cellsOf 2 = 1 := by kernel_rfl
  exact trod_struct2_mk (enc := enc) (n := 1) (cs := [.int .i64 a, .int .i64 b]) (y0 := (.lit (.int .i64 a), [])) (y1 := (.lit (.int .i64 b), [])) Tryz.underlying38 (by simp [span_cells])
    (by simp [DataW.trod, Tryz.underlying2, wa, c1]) (by simp [DataW.trod, Tryz.underlying2, wb, c1])

set_option maxRecDepth 100000 in
theorem open_area {W : World} {base b0 : Nat} {r : Reach} {spare : Nat → Bool} {held : Bool} {v : Value} {d : DataW H} {p : List MemPlace} (hv : Value.okWide Tryz.prog W r b0 46 v) (h : DataW.Trod enc Tryz.prog W base spare held 46 v d p) :
    ∃ x y z u : Int, v = .agg #[.int .i64 x, .int .i64 y, .int .i64 z, .int .i64 u] ∧ d = .agg [.agg [.lit (.int .i64 x), .lit (.int .i64 y)], .agg [.lit (.int .i64 z), .lit (.int .i64 u)]] ∧ p = [] ∧
      (Lit.int .i64 x).wf = true ∧ (Lit.int .i64 y).wf = true ∧ (Lit.int .i64 z).wf = true ∧ (Lit.int .i64 u).wf = true := by
  obtain ⟨cs, rfl, hsz⟩ := okWide_struct Tryz.underlying46 hv
  obtain ⟨c0, c1, c2, c3, rfl⟩ := array4 (hsz.trans area_cells)
  obtain ⟨fuel, hf⟩ := h
  obtain ⟨y0, y1, n, hx, _, h0, h1⟩ := trod_struct2 Tryz.underlying46 hf
  have e0 : DataW.trod enc Tryz.prog W base spare held n 38 [c0, c1] = some y0 := by
    have := h0; simp only [Value.cells, span_cells] at this; exact this
  have e1 : DataW.trod enc Tryz.prog W base spare held n 38 [c2, c3] = some y1 := by
    have := h1; simp only [Value.cells, span_cells] at this; exact this
  obtain ⟨a, b, rfl, rfl, rfl, wa, wb⟩ := trod_span e0
  obtain ⟨c, d', rfl, rfl, rfl, wc, wd⟩ := trod_span e1
  simp only [Prod.mk.injEq] at hx
  exact ⟨a, b, c, d', rfl, hx.1, hx.2, wa, wb, wc, wd⟩
set_option maxRecDepth 100000 in
theorem shut_area {W' : World} {base : Nat} {spare : Nat → Bool} {held : Bool} {x y z u : Int} (wx : (Lit.int .i64 x).wf = true) (wy : (Lit.int .i64 y).wf = true) (wz : (Lit.int .i64 z).wf = true) (wu : (Lit.int .i64 u).wf = true) :
    DataW.Trod enc Tryz.prog W' base spare held 46 (.agg #[.int .i64 x, .int .i64 y, .int .i64 z, .int .i64 u]) (.agg [.agg [.lit (.int .i64 x), .lit (.int .i64 y)], .agg [.lit (.int .i64 z), .lit (.int .i64 u)]]) [] := by
  have e0 := trod_span_mk (enc := enc) (W := W') (base := base) (spare := spare) (held := held) wx wy
  have e1 := trod_span_mk (enc := enc) (W := W') (base := base) (spare := spare) (held := held) wz wu
  exact ⟨3, trod_struct2_mk (enc := enc) (n := 2) (cs := [.int .i64 x, .int .i64 y, .int .i64 z, .int .i64 u]) (y0 := (.agg [.lit (.int .i64 x), .lit (.int .i64 y)], [])) (y1 := (.agg [.lit (.int .i64 z), .lit (.int .i64 u)], [])) Tryz.underlying46 (by simp [area_cells])
    (by simp only [span_cells]; exact e0) (by simp only [span_cells]; exact e1)⟩
end
end Go.Proofs.YtnaiaodnnmhdkaaGreat
