/- Plain facts: what is computed of spans inside others lies inside what is computed of these. No program. -/
import Derived.Test.YtbcgdhldkanecaaEncq
import Derived.Test.YtbcgdhldkanecaaRootW
namespace Go.Proofs.Ytbcgdhldkanecaa
open Go.RowKit

theorem inside_iff {a b c d : Int} (h1 : checkE a b = 0) (h2 : checkE c d = 0) : insideB a b c d = decide (c ≤ a ∧ b ≤ d) := by
  unfold insideB; rw [valid_ok h1 h2, Bool.decide_and]; rfl

theorem isq_mono {x y : Int} (x0 : 0 ≤ x) (h : x ≤ y) (y1 : y < 18446744073709551616) : isq x ≤ isq y := by
  obtain ⟨a0, a1, a2⟩ := isq_spec x x0 (by omega)
  obtain ⟨b0, b1, b2⟩ := isq_spec y (by omega) y1
  refine Int.not_lt.1 fun hc => ?_
  have := Int.mul_le_mul (show isq y + 1 ≤ isq x by omega) (show isq y + 1 ≤ isq x by omega) (by omega) a0
  omega
def upq (x : Int) : Int := if isq x * isq x < x then isq x + 1 else isq x
theorem upq_spec {x : Int} (x0 : 0 ≤ x) (x1 : x < 18446744073709551616) : 0 ≤ upq x ∧ isq x ≤ upq x ∧ x ≤ upq x * upq x ∧ (upq x = 0 ∨ (upq x - 1) * (upq x - 1) < x) := by
  obtain ⟨a0, a1, a2⟩ := isq_spec x x0 x1
  unfold upq
  split
  · rename_i h
    refine ⟨by omega, by omega, by omega, .inr ?_⟩
    rw [show isq x + 1 - 1 = isq x by omega]; exact h
  · rename_i h
    refine ⟨a0, Int.le_refl _, by omega, ?_⟩
    by_cases hz : isq x = 0
    · exact .inl hz
    · right
      have : (isq x - 1) * (isq x - 1) = isq x * isq x - 2 * isq x + 1 := by grind
      omega
theorem upq_mono {x y : Int} (x0 : 0 ≤ x) (h : x ≤ y) (y1 : y < 18446744073709551616) : upq x ≤ upq y := by
  obtain ⟨a0, a1, a2, a3⟩ := upq_spec x0 (by omega)
  obtain ⟨b0, b1, b2, b3⟩ := upq_spec (x := y) (by omega) y1
  refine Int.not_lt.1 fun hc => ?_
  rcases a3 with a3 | a3
  · omega
  · have := Int.mul_le_mul (show upq y ≤ upq x - 1 by omega) (show upq y ≤ upq x - 1 by omega) b0 (by omega)
    omega

theorem grow_sums {a b c d A B C D : Int} (A0 : -2000 ≤ A) (Aa : A ≤ a) (ab : a ≤ b) (bB : b ≤ B) (B1 : B ≤ 2000) (C0 : -2000 ≤ C) (Cc : C ≤ c) (cd : c ≤ d) (dD : d ≤ D) (D1 : D ≤ 2000) :
    addS a b c d = (a + c, b + d, 0) ∧ addS A B C D = (A + C, B + D, 0) ∧ insideB (a + c) (b + d) (A + C) (B + D) = true ∧
      subS a b c d = (a - d, b - c, 0) ∧ subS A B C D = (A - D, B - C, 0) ∧ insideB (a - d) (b - c) (A - D) (B - C) = true := by
  refine ⟨add_val (by omega) (by omega) (by omega) (by omega) (by omega) (by omega), add_val (by omega) (by omega) (by omega) (by omega) (by omega) (by omega), ?_,
    sub_val (by omega) (by omega) (by omega) (by omega) (by omega) (by omega), sub_val (by omega) (by omega) (by omega) (by omega) (by omega) (by omega), ?_⟩
  · rw [inside_iff (check_ok (by omega) (by omega) (by omega)) (check_ok (by omega) (by omega) (by omega)), decide_eq_true_eq]; omega
  · rw [inside_iff (check_ok (by omega) (by omega) (by omega)) (check_ok (by omega) (by omega) (by omega)), decide_eq_true_eq]; omega

theorem grow_mul {a b c d A B C D : Int} (A0 : -2000 ≤ A) (Aa : A ≤ a) (ab : a ≤ b) (bB : b ≤ B) (B1 : B ≤ 2000) (C0 : -2000 ≤ C) (Cc : C ≤ c) (cd : c ≤ d) (dD : d ≤ D) (D1 : D ≤ 2000) :
    ∃ p q P Q : Int, mulS a b c d = (p, q, 0) ∧ mulS A B C D = (P, Q, 0) ∧ insideB p q P Q = true := by
  have m1 := mul_bd (x := a) (y := c) (B := 2000) (C := 2000) (by omega) (by omega) (by omega) (by omega)
  have m2 := mul_bd (x := a) (y := d) (B := 2000) (C := 2000) (by omega) (by omega) (by omega) (by omega)
  have m3 := mul_bd (x := b) (y := c) (B := 2000) (C := 2000) (by omega) (by omega) (by omega) (by omega)
  have m4 := mul_bd (x := b) (y := d) (B := 2000) (C := 2000) (by omega) (by omega) (by omega) (by omega)
  have n1 := mul_bd (x := A) (y := C) (B := 2000) (C := 2000) (by omega) (by omega) (by omega) (by omega)
  have n2 := mul_bd (x := A) (y := D) (B := 2000) (C := 2000) (by omega) (by omega) (by omega) (by omega)
  have n3 := mul_bd (x := B) (y := C) (B := 2000) (C := 2000) (by omega) (by omega) (by omega) (by omega)
  have n4 := mul_bd (x := B) (y := D) (B := 2000) (C := 2000) (by omega) (by omega) (by omega) (by omega)
  have b1 := mul_between (a := A) (b := B) (c := C) (d := D) (x := a) (y := c) (by omega) (by omega) (by omega) (by omega)
  have b2 := mul_between (a := A) (b := B) (c := C) (d := D) (x := a) (y := d) (by omega) (by omega) (by omega) (by omega)
  have b3 := mul_between (a := A) (b := B) (c := C) (d := D) (x := b) (y := c) (by omega) (by omega) (by omega) (by omega)
  have b4 := mul_between (a := A) (b := B) (c := C) (d := D) (x := b) (y := d) (by omega) (by omega) (by omega) (by omega)
  refine ⟨_, _, _, _, mul_val ab cd (by omega) (by omega) (by omega) (by omega), mul_val (by omega) (by omega) (by omega) (by omega) (by omega) (by omega), ?_⟩
  rw [inside_iff (check_ok (by omega) (by omega) (by omega)) (check_ok (by omega) (by omega) (by omega)), decide_eq_true_eq]; omega

theorem grow_square {a b A B : Int} (A0 : -2000 ≤ A) (Aa : A ≤ a) (ab : a ≤ b) (bB : b ≤ B) (B1 : B ≤ 2000) :
    ∃ p q P Q : Int, squareS a b = (p, q, 0) ∧ squareS A B = (P, Q, 0) ∧ insideB p q P Q = true := by
  obtain ⟨l, m, hs, l0, lm, mm, hm, hq, z1, z2, z3⟩ := square_val (a := a) (b := b) (by omega) (by omega) (by omega)
  obtain ⟨L, M, hS, L0, LM, MM, hM, hQ, _, _, _⟩ := square_val (a := A) (b := B) (by omega) (by omega) (by omega)
  refine ⟨l, m, L, M, hs, hS, ?_⟩
  have e1 := hQ a (by omega) (by omega)
  have e2 := hQ b (by omega) (by omega)
  have e3 : L ≤ l := by
    rcases Int.le_total 0 a with h | h
    · rw [z2 h]; exact e1.1
    · rcases Int.le_total b 0 with h2 | h2
      · rw [z3 h2]; exact e2.1
      · have := z1 h h2
        have := hQ 0 (by omega) (by omega)
        omega
  rw [inside_iff (check_ok (by omega) (by omega) (by omega)) (check_ok (by omega) (by omega) (by omega)), decide_eq_true_eq]; omega

theorem grow_quot {a b c d A B C D : Int} (A0 : -2000 ≤ A) (Aa : A ≤ a) (ab : a ≤ b) (bB : b ≤ B) (B1 : B ≤ 2000) (C0 : -2000 ≤ C) (Cc : C ≤ c) (cd : c ≤ d) (dD : d ≤ D) (D1 : D ≤ 2000) :
    (∃ p q e : Int, quotS A B C D = (0, 0, 2) ∧ quotS a b c d = (p, q, e)) ∨ ∃ p q P Q : Int, quotS a b c d = (p, q, 0) ∧ quotS A B C D = (P, Q, 0) ∧ insideB p q P Q = true := by
  by_cases h : C ≤ 0 ∧ 0 ≤ D
  · left
    refine ⟨_, _, _, ?_, rfl⟩
    unfold quotS
    rw [if_pos (valid_ok (check_ok (by omega) (by omega) (by omega)) (check_ok (by omega) (by omega) (by omega))), if_pos h]
  · right
    obtain ⟨l, m, hq, l0, lm, m0, hin, hl, hm⟩ := quot_val (a := a) (b := b) (c := c) (d := d) (by omega) (by omega) (by omega) (by omega) (by omega) (by omega) (by omega)
    obtain ⟨L, M, hQ, L0, LM, M0, hIn, _, _⟩ := quot_val (a := A) (b := B) (c := C) (d := D) (by omega) (by omega) (by omega) (by omega) (by omega) (by omega) h
    refine ⟨l, m, L, M, hq, hQ, ?_⟩
    have e1 := hIn a c (by omega) (by omega) (by omega) (by omega)
    have e2 := hIn a d (by omega) (by omega) (by omega) (by omega)
    have e3 := hIn b c (by omega) (by omega) (by omega) (by omega)
    have e4 := hIn b d (by omega) (by omega) (by omega) (by omega)
    rw [inside_iff (check_ok (by omega) (by omega) (by omega)) (check_ok (by omega) (by omega) (by omega)), decide_eq_true_eq]; omega

theorem grow_roots {a b A B : Int} (A0 : -2000 ≤ A) (Aa : A ≤ a) (ab : a ≤ b) (bB : b ≤ B) (B1 : B ≤ 2000) :
    (∃ p q e : Int, rootsS A B = (0, 0, 2) ∧ rootsS a b = (p, q, e)) ∨ ∃ p q P Q : Int, rootsS a b = (p, q, 0) ∧ rootsS A B = (P, Q, 0) ∧ insideB p q P Q = true := by
  by_cases h : A < 0
  · left
    refine ⟨_, _, _, ?_, rfl⟩
    unfold rootsS
    rw [if_pos (check_ok (by omega) (by omega) (by omega)), if_pos h]
  · right
    refine ⟨isq a, upq b, isq A, upq B, ?_, ?_, ?_⟩
    · unfold rootsS upq; rw [if_pos (check_ok (by omega) (by omega) (by omega)), if_neg (by omega)]
    · unfold rootsS upq; rw [if_pos (check_ok (by omega) (by omega) (by omega)), if_neg (by omega)]
    · have m1 := isq_mono (x := A) (y := a) (by omega) Aa (by omega)
      have m2 := isq_mono (x := a) (y := b) (by omega) ab (by omega)
      have m3 := upq_mono (x := b) (y := B) (by omega) bB (by omega)
      obtain ⟨s0, s1, _⟩ := isq_spec A (by omega) (by omega)
      obtain ⟨_, t1, t2, t3⟩ := upq_spec (x := b) (by omega) (by omega)
      obtain ⟨u0, _, _, u3⟩ := upq_spec (x := B) (by omega) (by omega)
      have u4 : upq B ≤ 2001 := by
        rcases u3 with u3 | u3
        · omega
        · refine Int.not_lt.1 fun hc => ?_
          have := Int.mul_le_mul (show 2001 ≤ upq B - 1 by omega) (show 2001 ≤ upq B - 1 by omega) (by omega) (by omega)
          omega
      rw [inside_iff (check_ok (by omega) (by omega) (by omega)) (check_ok (by omega) (by omega) (by omega)), decide_eq_true_eq]; omega
end Go.Proofs.Ytbcgdhldkanecaa
