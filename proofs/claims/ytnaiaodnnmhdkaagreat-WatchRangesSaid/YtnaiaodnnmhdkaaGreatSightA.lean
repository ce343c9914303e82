/- Sights made of numbers: plain parts. -/
import Derived.Test.YtnaiaodnnmhdkaaGreatSkyU
import Derived.Test.YtnaiaodnnmhdkaaGreatModk
import Derived.Test.YtnaiaodnnmhdkaaGreatMade
namespace Go.Proofs.YtnaiaodnnmhdkaaGreat
set_option linter.unusedVariables false
set_option linter.unusedSimpArgs false
open Go.RowKit

/-- a sight made of numbers -/
def RSight (s : SkyD) (tick : Int) (v : Value) : Prop := ∃ kind st cat dx dy err lo hi : Int, (1 ≤ kind ∧ kind ≤ 3) ∧ (s.stations.any fun x => x.1 == st) = true ∧ (s.catalogs.any fun x => x.1 == cat) = true ∧
  ((-4096 ≤ dx ∧ dx ≤ 4096) ∧ (-4096 ≤ dy ∧ dy ≤ 4096) ∧ ¬ (dx = 0 ∧ dy = 0)) ∧ (0 ≤ err ∧ err ≤ 39999) ∧ (0 ≤ lo ∧ lo ≤ 999) ∧ (1 ≤ hi ∧ hi ≤ 7000) ∧ v = .agg #[.int .i64 (kind), .int .i64 (st), .int .i64 (cat), .int .i64 (tick), .int .i64 (dx), .int .i64 (dy), .int .i64 (err), .int .i64 (lo), .int .i64 (hi)]
/-- an offer made of numbers -/
def ROffer (s : SkyD) (tick : Int) (v : Value) : Prop := ∃ o : OffD, offE s o = 0 ∧ o.tick = tick ∧ o.far ≤ 133300000 ∧ v = .agg (offA o)
/-- halves go to where all is within 4096 -/
def halfOut (dx dy : Int) : Prop := dx > 4096 ∨ -dx > 4096 ∨ dy > 4096 ∨ -dy > 4096
theorem half_cases (d : Int) : (0 ≤ d ∧ d.tdiv 2 = d / 2) ∨ (d < 0 ∧ d.tdiv 2 = -((-d) / 2)) := by
  by_cases h : 0 ≤ d
  · exact .inl ⟨h, Int.tdiv_eq_ediv_of_nonneg h⟩
  · refine .inr ⟨by omega, ?_⟩
    have h1 := Int.neg_tdiv (a := -d) (b := 2)
    have h2 := Int.tdiv_eq_ediv_of_nonneg (a := -d) (b := 2) (by omega)
    rw [Int.neg_neg, h2] at h1
    exact h1
theorem half_less {dx dy : Int} (h : halfOut dx dy) : (dx.tdiv 2).natAbs + (dy.tdiv 2).natAbs < dx.natAbs + dy.natAbs := by
  unfold halfOut at h
  rcases half_cases dx with ⟨_, e⟩ | ⟨_, e⟩ <;> rcases half_cases dy with ⟨_, f⟩ | ⟨_, f⟩ <;> rw [e, f] <;> omega
theorem half_bd {d m : Int} (h : -m ≤ d ∧ d ≤ m) (hm : 0 ≤ m) : -m ≤ d.tdiv 2 ∧ d.tdiv 2 ≤ m := by
  rcases half_cases d with ⟨_, e⟩ | ⟨_, e⟩ <;> rw [e] <;> omega
end Go.Proofs.YtnaiaodnnmhdkaaGreat
