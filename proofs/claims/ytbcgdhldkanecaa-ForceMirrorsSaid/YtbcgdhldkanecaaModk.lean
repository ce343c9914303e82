/- The statements' own helpers: a number brought into range by its remainder, a place brought into range. Conditions: a modulus above 0. -/
import Derived.Test.YtbcgdhldkanecaaBase
namespace Go.Proofs.Ytbcgdhldkanecaa
open Go.RowKit

theorem tmod_neg (n m : Int) (hn : n < 0) (hm : 0 < m) : n.tmod m ≤ 0 ∧ -m < n.tmod m ∧ n % m = if n.tmod m < 0 then n.tmod m + m else n.tmod m := by
  have h1 : n.tmod m ≤ 0 := by
    have := Int.tmod_nonneg (a := -n) m (by omega)
    rw [Int.neg_tmod] at this; omega
  have h2 : -m < n.tmod m := by
    have := Int.lt_tmod_of_pos n hm
    omega
  refine ⟨h1, h2, ?_⟩
  have h3 := Int.mul_tdiv_add_tmod n m
  have h4 := Int.mul_ediv_add_emod n m
  have h5 := Int.emod_nonneg n (show m ≠ 0 by omega)
  have h6 := Int.emod_lt_of_pos n hm
  generalize n.tmod m = t at *
  generalize n % m = e at *
  generalize n.tdiv m = q at *
  generalize n / m = r at *
  have h7 : m * (q - r) = e - t := by rw [Int.mul_sub]; omega
  have h8 : q - r = 0 ∨ q - r = 1 := by
    have a1 : q - r < 2 := by
      apply Int.lt_of_mul_lt_mul_left (a := m) _ (by omega)
      omega
    have a2 : -1 < q - r := by
      apply Int.lt_of_mul_lt_mul_left (a := m) _ (by omega)
      omega
    omega
  rcases h8 with h8 | h8 <;> rw [h8] at h7 <;> split <;> omega

theorem mod64_any (n m : Int) (n0 : -9223372036854775808 ≤ n) (n1 : n ≤ 9223372036854775807) (m0 : 0 < m) (m1 : m ≤ 9223372036854775807) (w : World) :
    Gives Try.prog 28 #[.int .i64 n, .int .i64 m] w (.int .i64 (n % m)) := by
  by_cases hn : n < 0
  · obtain ⟨h1, h2, h3⟩ := tmod_neg n m hn m0
    have H3 := hide h3
    clear h3
    (unfold Gives; go_enter Try.func28, Try.ntmps28)
    go_wp2
    all_goals (go_ret; refine ⟨ret_int ?_, (by repeat (first | with_reducible exact Up.refl _ | with_reducible apply Up.plus | apply Up.ext | apply Up.alloc | apply Up.drew | (refine Up.setCell ?_ (by simp; try omega) _)))⟩)
    all_goals (have h3 := H3.out; (first | rw [if_pos (by omega)] at h3 | rw [if_neg (by omega)] at h3); omega)
  · have h1 := Int.emod_nonneg n (show m ≠ 0 by omega)
    have h2 := Int.emod_lt_of_pos n m0
    (unfold Gives; go_enter Try.func28, Try.ntmps28)
    go_wp2
    all_goals (go_ret; refine ⟨ret_int ?_, (by repeat (first | with_reducible exact Up.refl _ | with_reducible apply Up.plus | apply Up.ext | apply Up.alloc | apply Up.drew | (refine Up.setCell ?_ (by simp; try omega) _)))⟩)
    all_goals rfl
end Go.Proofs.Ytbcgdhldkanecaa
