/- Several texts in one. -/
import Derived.Test.YtnaiaodnnmhdkaaPostb
import Derived.Test.YtnaiaodnnmhdkaaRingF
import Derived.ChangeSlices
import Derived.Test.YtnaiaodnnmhdkaaFloat
/- How a list of numbers that comes in reads, and how it is handed on. No conditions. -/
namespace Go.Proofs.Ytnaiaodnnmhdkaa
set_option linter.unusedVariables false
set_option linter.unusedSimpArgs false
open Go.RowKit Go.WideShapes Go.ChangeShapes

theorem int_cells : Try.prog.cellsOf 3 = 1 := by kernel_rfl
section
open Go.Joins
variable {H : Type} {enc : TypeId × Value → H}
set_option maxRecDepth 100000 in
theorem open_nums {W : World} {b0 : Nat} {r : Reach} {v : Value} {d : DataW H} {p : List MemPlace} (hv : Value.okWide Try.prog W r b0 22 v) (h : DataW.Trod enc Try.prog W 0 (fun _ => true) true 22 v d p) (hlt : ∀ x ∈ p, x.block < W.heap.size) :
    Nums W v ∧ ∀ (W' : World) (sp : Nat → Bool), Below W.heap.size W W' → (∀ x ∈ p, sp x.block = true) → DataW.Trod enc Try.prog W' 0 sp true 22 v d p := by
  obtain ⟨a0, len, cap, rfl⟩ := okWide_slice Try.underlying22 hv
  obtain ⟨fuel, hf⟩ := h
  rcases open_ints Try.underlying22 Try.underlying3 int_cells hf with ⟨hcs, hx⟩ | ⟨a, len', cap', zs, hcs, _, hl, hm, hz, hx, hcell, hwz⟩
  · simp [Value.cells] at hcs
    obtain ⟨rfl, rfl, rfl⟩ := hcs
    simp only [Prod.mk.injEq] at hx
    obtain ⟨rfl, rfl⟩ := hx
    exact ⟨.inl rfl, fun W' sp _ _ => ⟨1, by simp [DataW.trod, Try.underlying22, Value.cells]⟩⟩
  · simp [Value.cells] at hcs
    obtain ⟨rfl, rfl, rfl⟩ := hcs
    simp only [Prod.mk.injEq] at hx
    obtain ⟨rfl, rfl⟩ := hx
    simp only [if_true] at hz
    have hin : 0 < zs.length → a.block < W.heap.size := fun hpos => by
      obtain ⟨b, off, spot⟩ := a
      exact hlt (.cell b off) (MemPlace.mem_row.2 ⟨0, by omega, by simp⟩)
    have hspot : 0 < zs.length → a.spot = none := fun hpos => by
      have h0 := hcell 0 hpos
      unfold World.cell? at h0
      have e : a.add 0 = a := by simp [Addr.add]
      rw [e] at h0
      split at h0
      · split at h0
        · cases h0
        · rename_i hs; cases hsp : a.spot with
          | none => rfl
          | some _ => rw [hsp] at hs; simp at hs
      · cases h0
    refine ⟨?_, fun W' sp hb hsp => ⟨2, ?_⟩⟩
    · by_cases hn0 : len = 0
      · subst hn0; exact .inr (.inl ⟨a, cap, rfl⟩)
      · have hpos : 0 < zs.length := by omega
        have hs := hspot hpos
        have hi := hin hpos
        obtain ⟨b, off, spot⟩ := a
        simp only at hs hi
        subst hs
        refine .inr (.inr ⟨b, off, len, cap, rfl, by omega, hi, by unfold maxLen at hm; omega, fun i hi2 => ⟨zs.getD i 0, ?_, ?_⟩⟩)
        · have hmem : zs.getD i 0 ∈ zs := by
            rw [List.getD_eq_getElem?_getD, List.getElem?_eq_getElem (by omega)]
            exact List.getElem_mem _
          exact i64_bds (hwz _ hmem)
        · have := hcell i (by omega)
          rwa [add_plain] at this
    · show DataW.trod enc Try.prog W' 0 sp true 2 22 [.slice (some a) len cap] = _
      refine shut_ints 0 Try.underlying22 Try.underlying3 int_cells (Nat.zero_le _) hl hm ?_ (fun i hi => ?_) hwz
      · by_cases hpos : 0 < zs.length
        · have hin2 : sp a.block = true := by
            obtain ⟨b, off, spot⟩ := a
            exact hsp (.cell b off) (MemPlace.mem_row.2 ⟨0, by omega, by simp⟩)
          rw [if_pos hin2]; exact hz
        · split <;> omega
      · rw [← hcell i hi]
        refine World.cell?_of_block (hb.block _ ?_)
        have e : (a.add i).block = a.block := by unfold Addr.add; split <;> rfl
        rw [e]
        exact hin (by omega)
end
end Go.Proofs.Ytnaiaodnnmhdkaa

/- A struct of two or four numbers stored into a block known whole. No conditions but those typed. -/
namespace Go.Proofs.Ytnaiaodnnmhdkaa
set_option linter.unusedVariables false
set_option linter.unusedSimpArgs false
open Go.RowKit

def four4 (W : World) (g : Nat) (x y z u : Int) : World := (((W.setCell ⟨g, 0, none⟩ (.int .i64 x)).setCell ⟨g, 1, none⟩ (.int .i64 y)).setCell ⟨g, 2, none⟩ (.int .i64 z)).setCell ⟨g, 3, none⟩ (.int .i64 u)
theorem run_store4 {a : Act} {p v : Nat} {ty : TypeId} {pos : String} {after : Array Edge} {guard : Option (Nat × Bool)} {W : World} {g : Nat} {x y z u : Int} {c0 c1 c2 c3 : Value} {T : TypeId}
    (hp : a.eval (.tmp p) = .pointer (some ⟨g, 0, none⟩)) (hv : a.eval (.tmp v) = .agg #[.int .i64 (x), .int .i64 (y), .int .i64 (z), .int .i64 (u)]) (hb : Box W g #[c0, c1, c2, c3] T) :
    (execOp a.eval { dst := none, op := .store 40 (.tmp p) (.tmp v), type := ty, pos := pos, after := after, guard := guard }).run Try.prog W =
      .ok .skip (four4 W g x y z u) := by
  obtain ⟨⟨h0, h1⟩, h2, h3⟩ := hb.four
  have f0 := hb.frozen 0
  have f1 := hb.frozen 1
  have f2 := hb.frozen 2
  have f3 := hb.frozen 3
  simp only [Act.eval] at hp hv
  unfold four4
  simp [go_sem, hp, hv, h0, h1, h2, h3, f0, f1, f2, f3]

theorem four4_box {W : World} {g : Nat} {x y z u : Int} {c0 c1 c2 c3 : Value} {T : TypeId} (h : Box W g #[c0, c1, c2, c3] T) : Box (four4 W g x y z u) g #[.int .i64 (x), .int .i64 (y), .int .i64 (z), .int .i64 (u)] T := by
  have := (((h.set 0 (.int .i64 x)).set 1 (.int .i64 y)).set 2 (.int .i64 z)).set 3 (.int .i64 u)
  simpa [four4] using this
theorem four4_other {W : World} {g b : Nat} {x y z u : Int} {c : Array Value} {T : TypeId} (h : Box W b c T) (hne : b ≠ g) : Box (four4 W g x y z u) b c T :=
  (((h.other hne 0 _).other hne 1 _).other hne 2 _).other hne 3 _
theorem four4_up {w W : World} {g : Nat} {x y z u : Int} (h : Up w W) (hg : w.heap.size ≤ g) : Up w (four4 W g x y z u) :=
  (((h.setCell (q := ⟨g, 0, none⟩) hg _).setCell (q := ⟨g, 1, none⟩) hg _).setCell (q := ⟨g, 2, none⟩) hg _).setCell (q := ⟨g, 3, none⟩) hg _

/-- two areas are stored into blocks of their own -/
theorem tail_areas {ops : Array Oper} {Q : Exit → Act → World → Prop} {a : Act} {W : World} {p1 v1 p2 v2 : Nat} {ty1 ty2 : TypeId} {pos1 pos2 : String} {af1 af2 : Array Edge} {g1 g2 : Nat} {x y z u x' y' z' u' : Int} {c0 c1 c2 c3 d0 d1 d2 d3 : Value} {T1 T2 : TypeId}
    (hp1 : a.eval (.tmp p1) = .pointer (some ⟨g1, 0, none⟩)) (hv1 : a.eval (.tmp v1) = .agg #[.int .i64 (x), .int .i64 (y), .int .i64 (z), .int .i64 (u)]) (hp2 : a.eval (.tmp p2) = .pointer (some ⟨g2, 0, none⟩)) (hv2 : a.eval (.tmp v2) = .agg #[.int .i64 (x'), .int .i64 (y'), .int .i64 (z'), .int .i64 (u')])
    (b1 : Box W g1 #[c0, c1, c2, c3] T1) (b2 : Box W g2 #[d0, d1, d2, d3] T2) (hne : g1 ≠ g2)
    (h : ∀ W', Box W' g1 #[.int .i64 (x), .int .i64 (y), .int .i64 (z), .int .i64 (u)] T1 → Box W' g2 #[.int .i64 (x'), .int .i64 (y'), .int .i64 (z'), .int .i64 (u')] T2 → (∀ b c T, b ≠ g1 → b ≠ g2 → Box W b c T → Box W' b c T) → (∀ w0, w0.heap.size ≤ g1 → w0.heap.size ≤ g2 → Up w0 W → Up w0 W') → Q .normal a W') :
    wpList Try.prog ops Q [{ dst := none, op := .store 40 (.tmp p1) (.tmp v1), type := ty1, pos := pos1, after := af1, guard := none }, { dst := none, op := .store 40 (.tmp p2) (.tmp v2), type := ty2, pos := pos2, after := af2, guard := none }] a W := by
  unfold wpList
  rw [if_pos (show Region.wanted { dst := none, op := .store 40 (.tmp p1) (.tmp v1), type := ty1, pos := pos1, after := af1, guard := none } (yielded ops a.tmps) = true from rfl)]
  left
  unfold Oper.wp
  rw [run_store4 hp1 hv1 b1]
  simp only [Oper.upon]
  show wpList Try.prog ops Q [{ dst := none, op := .store 40 (.tmp p2) (.tmp v2), type := ty2, pos := pos2, after := af2, guard := none }] a (four4 W g1 x y z u)
  unfold wpList
  rw [if_pos (show Region.wanted { dst := none, op := .store 40 (.tmp p2) (.tmp v2), type := ty2, pos := pos2, after := af2, guard := none } (yielded ops a.tmps) = true from rfl)]
  left
  unfold Oper.wp
  rw [run_store4 hp2 hv2 (show Box _ g2 _ _ from four4_other (g := g1) (x := x) (y := y) (z := z) (u := u) b2 (Ne.symm hne))]
  simp only [Oper.upon]
  show wpList Try.prog ops Q [] a (four4 (four4 W g1 x y z u) g2 x' y' z' u')
  unfold wpList
  exact h _ (four4_other (g := g2) (four4_box b1) hne) (four4_box (four4_other (g := g1) b2 (Ne.symm hne))) (fun b c T h1 h2 hb => four4_other (g := g2) (four4_other (g := g1) hb h1) h2)
    (fun w0 h1 h2 hu => four4_up (g := g2) (four4_up (g := g1) hu h1) h2)
end Go.Proofs.Ytnaiaodnnmhdkaa

