/- Signs of cross and dot products: those of the exact numbers, in the program. Numbers that fit 64 bits. -/
import Derived.Test.YtfpdnmfklmgmfaaPlaneB
namespace Go.Proofs.Ytfpdnmfklmgmfaa
open Go.RowKit

def sgnI (x : Int) : Int := if x < 0 then -1 else if x = 0 then 0 else 1

theorem mag_mul (a b : Int) : (a.natAbs : Int) * b.natAbs = ((a * b).natAbs : Int) := by rw [Int.natAbs_mul]; exact (Int.natCast_mul _ _).symm

theorem sgnW_eq (p : Int) (b : Bool) (hb : b = decide (p < 0) ∨ p = 0) : sgnW ((p.natAbs : Int) / 18446744073709551616) ((p.natAbs : Int) % 18446744073709551616) b = sgnI p := by
  unfold sgnW sgnI
  rcases hb with rfl | rfl
  · by_cases h : p < 0
    · rw [if_neg (by omega), if_pos (by simpa using h), if_pos h]
    · rw [if_neg h]
      by_cases h0 : p = 0
      · rw [if_pos (by omega), if_pos h0]
      · rw [if_neg (by omega), if_neg (by simpa using h), if_neg h0]
  · rfl

theorem cmpW_eq (p q : Int) (b b' : Bool) (hb : b = decide (p < 0) ∨ p = 0) (hb' : b' = decide (q < 0) ∨ q = 0) :
    cmpW ((p.natAbs : Int) / 18446744073709551616) ((p.natAbs : Int) % 18446744073709551616) b ((q.natAbs : Int) / 18446744073709551616) ((q.natAbs : Int) % 18446744073709551616) b' = sgnI (p - q) := by
  unfold cmpW
  rw [sgnW_eq p b hb, sgnW_eq q b' hb', less_split]
  simp only [decide_eq_true_eq]
  unfold sgnI
  split
  · split
    · split <;> (repeat' split) <;> omega
    · split <;> (repeat' split) <;> (repeat' split at *) <;> omega
  · (repeat' split) <;> (repeat' split at *) <;> omega

theorem crossV_eq (a b c d : Int) : crossV a b c d = sgnI (a * d - b * c) := by
  unfold crossV
  rw [mag_mul, mag_mul]
  exact cmpW_eq _ _ _ _ (sgn_product a d) (sgn_product b c)
theorem dotV_eq (a b c d : Int) : dotV a b c d = sgnI (a * c + b * d) := by
  unfold dotV
  rw [mag_mul, mag_mul, show a * c + b * d = a * c - -(b * d) by omega, show ((b * d).natAbs : Int) = ((-(b * d)).natAbs : Int) by omega]
  refine cmpW_eq _ _ _ _ (sgn_product a c) ?_
  rcases sgn_product b d with h | h
  · by_cases h0 : b * d = 0
    · right; omega
    · left
      rw [h, ← decide_not]
      exact decide_eq_decide.2 (by omega)
  · right; omega

theorem sgnI_bd (x : Int) : -1 ≤ sgnI x ∧ sgnI x ≤ 1 := by unfold sgnI; split <;> (try split) <;> omega

theorem cross_sgn (a b c d : Int) (a0 : -9223372036854775808 ≤ a) (a1 : a ≤ 9223372036854775807) (b0 : -9223372036854775808 ≤ b) (b1 : b ≤ 9223372036854775807)
    (c0 : -9223372036854775808 ≤ c) (c1 : c ≤ 9223372036854775807) (d0 : -9223372036854775808 ≤ d) (d1 : d ≤ 9223372036854775807) (w : World) :
    Gives Try.prog 26 #[.agg #[.int .i64 a, .int .i64 b], .agg #[.int .i64 c, .int .i64 d]] w (.int .i64 (sgnI (a * d - b * c))) := by
  rw [← crossV_eq]; exact cross_any a b c d a0 a1 b0 b1 c0 c1 d0 d1 w
theorem dot_sgn (a b c d : Int) (a0 : -9223372036854775808 ≤ a) (a1 : a ≤ 9223372036854775807) (b0 : -9223372036854775808 ≤ b) (b1 : b ≤ 9223372036854775807)
    (c0 : -9223372036854775808 ≤ c) (c1 : c ≤ 9223372036854775807) (d0 : -9223372036854775808 ≤ d) (d1 : d ≤ 9223372036854775807) (w : World) :
    Gives Try.prog 28 #[.agg #[.int .i64 a, .int .i64 b], .agg #[.int .i64 c, .int .i64 d]] w (.int .i64 (sgnI (a * c + b * d))) := by
  rw [← dotV_eq]; exact dot_any a b c d a0 a1 b0 b1 c0 c1 d0 d1 w
end Go.Proofs.Ytfpdnmfklmgmfaa
