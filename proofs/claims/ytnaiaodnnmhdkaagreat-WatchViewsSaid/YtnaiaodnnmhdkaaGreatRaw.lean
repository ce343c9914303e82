/- Drifts and states that came in; how what came in is handed on where nothing below has turned; what the ring leaves as it lay. No conditions. -/
import Derived.Test.YtnaiaodnnmhdkaaGreatSkyI
import Derived.Test.YtnaiaodnnmhdkaaGreatRingK
import Derived.Test.YtnaiaodnnmhdkaaGreatPostb
import Derived.Carry
namespace Go.Proofs.YtnaiaodnnmhdkaaGreat
set_option linter.unusedVariables false
set_option linter.unusedSimpArgs false
open Go.RowKit Go.WideShapes Go.ChangeShapes

theorem RingAt.keeps {K : Nat → Prop} {w W : World} {B : Nat} {n : Int} (h : RingAt w B n W) (hK : ∀ b, K b → b ≠ B) : Keeps K w W := by
  obtain ⟨t, p, _, _, rfl⟩ := h
  exact Keeps.grown (grown_up (grown_set (grown_refl _ _) _ _) ((Up.refl _).ext p)) hK

theorem laidOut : laidOutB Tryz.prog = true := by kernel_rfl
theorem drift_cells : Tryz.prog.cellsOf 68 = 5 := by kernel_rfl
theorem state_cells : Tryz.prog.cellsOf 77 = 4 := by kernel_rfl
section
open Go.Joins
variable {H : Type} {enc : TypeId × Value → H} {W : World} {sp : Nat → Bool} {held : Bool}
/-- what came in reads as it did where nothing below has turned -/
theorem shut_stay {t : TypeId} {v : Value} {d : DataW H} {p : List MemPlace} (hr : Tryz.prog.readableRec t = true) (hrow : decide (t < Tryz.prog.types.size) = true) (h : DataW.Trod enc Tryz.prog W 0 (fun _ => true) true t v d p) (hlt : ∀ x ∈ p, x.block < W.heap.size)
    (W' : World) (sp : Nat → Bool) (hb : Below W.heap.size W W') (hs : ∀ x ∈ p, sp x.block = true) : DataW.Trod enc Tryz.prog W' 0 sp true t v d p :=
  WideElems.Trod_stays laidOut hr (of_decide_eq_true hrow) h (fun x hx => hb.same (hlt x hx)) hs
set_option maxRecDepth 100000 in
theorem open_drift {b0 : Nat} {r : Reach} {v : Value} {d : DataW H} {p : List MemPlace} (hv : Value.okWide Tryz.prog W r b0 68 v) (h : DataW.Trod enc Tryz.prog W 0 sp held 68 v d p) :
    ∃ a b c e g : Int, v = .agg #[.int .i64 (a), .int .i64 (b), .int .i64 (c), .int .i64 (e), .int .i64 (g)] := by
  obtain ⟨cs, rfl, hsz⟩ := okWide_struct Tryz.underlying68 hv
  obtain ⟨l⟩ := cs
  obtain ⟨fuel, hf⟩ := h
  obtain ⟨xs, m, _, _, hl, hlen, hf⟩ := DataW.trod_struct Tryz.underlying68 hf
  match l, hsz.trans drift_cells with
  | [c0, c1, c2, c3, c4], _ =>
    have h0 := hf 0 _ rfl
    have h1 := hf 1 _ rfl
    have h2 := hf 2 _ rfl
    match xs, hlen with
    | [y0, y1, y2], _ =>
      simp only [List.getElem?_cons_zero, List.getElem?_cons_succ] at h0 h1 h2
      simp [Value.cells, span_cells] at h0 h1 h2
      obtain ⟨a, b, rfl, rfl, _⟩ := trod_span h0
      obtain ⟨c, e, rfl, rfl, _⟩ := trod_span h1
      obtain ⟨g, e1, _, wg⟩ := DataW.trod_int Tryz.underlying2 h2
      simp [ints_cells] at e1
      subst e1
      exact ⟨a, b, c, e, g, rfl⟩
set_option maxRecDepth 100000 in
theorem open_state {b0 : Nat} {r : Reach} {v : Value} {d : DataW H} {p : List MemPlace} (hv : Value.okWide Tryz.prog W r b0 77 v) (h : DataW.Trod enc Tryz.prog W 0 sp held 77 v d p) :
    ∃ a b c e : Int, v = .agg #[.int .i64 (a), .int .i64 (b), .int .i64 (c), .int .i64 (e)] ∧ I64 a ∧ I64 b ∧ I64 c ∧ I64 e := by
  obtain ⟨cs, rfl, hsz⟩ := okWide_struct Tryz.underlying77 hv
  obtain ⟨l⟩ := cs
  obtain ⟨fuel, hf⟩ := h
  obtain ⟨xs, m, _, _, hl, hlen, hf⟩ := DataW.trod_struct Tryz.underlying77 hf
  match l, hsz.trans state_cells with
  | [c0, c1, c2, c3], _ =>
    have h0 := hf 0 _ rfl
    have h1 := hf 1 _ rfl
    have h2 := hf 2 _ rfl
    have h3 := hf 3 _ rfl
    match xs, hlen with
    | [y0, y1, y2, y3], _ =>
      simp only [List.getElem?_cons_zero, List.getElem?_cons_succ] at h0 h1 h2 h3
      obtain ⟨a, e0, _, wa⟩ := DataW.trod_int Tryz.underlying2 h0
      obtain ⟨b, e1, _, wb⟩ := DataW.trod_int Tryz.underlying2 h1
      obtain ⟨c, e2, _, wc⟩ := DataW.trod_int Tryz.underlying2 h2
      obtain ⟨e, e3, _, we⟩ := DataW.trod_int Tryz.underlying2 h3
      simp [Value.cells, ints_cells] at e0 e1 e2 e3
      subst e0 e1 e2 e3
      exact ⟨a, b, c, e, rfl, i64_of wa, i64_of wb, i64_of wc, i64_of we⟩
end
end Go.Proofs.YtnaiaodnnmhdkaaGreat
