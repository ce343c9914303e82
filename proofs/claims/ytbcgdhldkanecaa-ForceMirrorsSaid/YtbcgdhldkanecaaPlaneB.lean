/- Segments: how near they come to the origin. Numbers within 2^28. -/
import Derived.Test.YtbcgdhldkanecaaPlaneA
namespace Go.Proofs.Ytbcgdhldkanecaa
open Go.RowKit

theorem far_iff (n : Int) : farB n = true ↔ -268435456 ≤ n ∧ n ≤ 268435456 := by simp [farB, withinB]
theorem farV_iff (p : Int × Int) : farV p = true ↔ (-268435456 ≤ p.1 ∧ p.1 ≤ 268435456) ∧ (-268435456 ≤ p.2 ∧ p.2 ≤ 268435456) := by simp [farV, far_iff]

theorem mul_self_nonneg (x : Int) : 0 ≤ x * x := by
  rcases Int.le_total 0 x with h | h
  · exact Int.mul_nonneg h h
  · exact Int.mul_nonneg_of_nonpos_of_nonpos h h
def sqV (x y : Int) : Int := x * x + y * y
theorem mul_bd {x y B C : Int} (x0 : -B ≤ x) (x1 : x ≤ B) (y0 : -C ≤ y) (y1 : y ≤ C) : -(B * C) ≤ x * y ∧ x * y ≤ B * C := by
  constructor
  · rcases Int.le_total 0 x with h | h
    · have h1 := Int.mul_le_mul_of_nonneg_left y0 h
      have h2 := Int.mul_le_mul_of_nonneg_right x1 (show 0 ≤ C by omega)
      rw [Int.mul_neg] at h1; omega
    · have h1 := Int.mul_le_mul_of_nonpos_left h y1
      have h2 := Int.mul_le_mul_of_nonneg_right x0 (show 0 ≤ C by omega)
      rw [Int.neg_mul] at h2; omega
  · rcases Int.le_total 0 x with h | h
    · have h1 := Int.mul_le_mul_of_nonneg_left y1 h
      have h2 := Int.mul_le_mul_of_nonneg_right x1 (show 0 ≤ C by omega)
      omega
    · have h1 := Int.mul_le_mul_of_nonpos_left h y0
      have h2 := Int.mul_le_mul_of_nonneg_right x0 (show 0 ≤ C by omega)
      rw [Int.neg_mul] at h2; rw [Int.mul_neg] at h1; omega

def nearB (x y r : Int) : Bool := farV (x, y) && withinB r 0 268435456 && decide (sqV x y ≤ r * r)
/-- whether the segment from p to q comes within r of the origin -/
def comesB (px py qx qy r : Int) : Bool :=
  if 0 ≤ px * (qx - px) + py * (qy - py) then decide (sqV px py ≤ r * r)
  else if qx * (qx - px) + qy * (qy - py) ≤ 0 then decide (sqV qx qy ≤ r * r)
  else decide ((px * qy - py * qx) * (px * qy - py * qx) ≤ r * r * sqV (qx - px) (qy - py))

theorem less_split (x y : Int) : lessW (x / 18446744073709551616) (x % 18446744073709551616) (y / 18446744073709551616) (y % 18446744073709551616) = decide (x < y) := by
  unfold lessW
  exact decide_eq_decide.2 (by omega)

def withinS (px py qx qy r : Int) : Bool := asks2B px py qx qy r && comesB px py qx qy r
end Go.Proofs.Ytbcgdhldkanecaa
