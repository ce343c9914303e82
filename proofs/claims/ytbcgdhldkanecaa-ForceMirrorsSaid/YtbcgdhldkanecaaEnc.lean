/- Plain facts about sums, differences, products and squares of small spans: what they are, and that they enclose. -/
import Derived.Test.YtbcgdhldkanecaaSpanE
import Derived.Test.YtbcgdhldkanecaaPlaneB
namespace Go.Proofs.Ytbcgdhldkanecaa
open Go.RowKit

theorem in_iff {a b n : Int} (h : checkE a b = 0) : inB a b n = decide (a ≤ n ∧ n ≤ b) := by unfold inB; rw [h]; rfl
theorem valid_ok {a b c d : Int} (h1 : checkE a b = 0) (h2 : checkE c d = 0) : validE a b c d = 0 := by unfold validE; rw [if_pos h1, h2]
theorem ends_ok {a b : Int} (a0 : -1152921504606846976 ≤ a) (a1 : a ≤ 1152921504606846976) (b0 : -1152921504606846976 ≤ b) (b1 : b ≤ 1152921504606846976) : endsS a b = (a, b, 0) := by
  unfold endsS; rw [if_pos ⟨(fits_iff _).2 ⟨a0, a1⟩, (fits_iff _).2 ⟨b0, b1⟩⟩]

theorem lin_bd {x c d y : Int} (h0 : c ≤ y) (h1 : y ≤ d) : (x * c ≤ x * y ∧ x * y ≤ x * d) ∨ (x * d ≤ x * y ∧ x * y ≤ x * c) := by
  rcases Int.le_total 0 x with h | h
  · left; exact ⟨Int.mul_le_mul_of_nonneg_left h0 h, Int.mul_le_mul_of_nonneg_left h1 h⟩
  · right; exact ⟨Int.mul_le_mul_of_nonpos_left h h1, Int.mul_le_mul_of_nonpos_left h h0⟩
theorem lin_bd' {a b x c : Int} (h0 : a ≤ x) (h1 : x ≤ b) : (a * c ≤ x * c ∧ x * c ≤ b * c) ∨ (b * c ≤ x * c ∧ x * c ≤ a * c) := by
  have := lin_bd (x := c) h0 h1
  rw [Int.mul_comm c a, Int.mul_comm c b, Int.mul_comm c x] at this
  exact this
/-- a product lies among those of the ends -/
theorem mul_between {a b c d x y : Int} (h0 : a ≤ x) (h1 : x ≤ b) (h2 : c ≤ y) (h3 : y ≤ d) :
    min (min (min (a * c) (a * d)) (b * c)) (b * d) ≤ x * y ∧ x * y ≤ max (max (max (a * c) (a * d)) (b * c)) (b * d) := by
  have e1 := lin_bd (x := x) h2 h3
  have e2 := lin_bd' (c := c) h0 h1
  have e3 := lin_bd' (c := d) h0 h1
  omega

/-- products of the ends within 2^40 -/
theorem mul_val {a b c d : Int} (ab : a ≤ b) (cd : c ≤ d) (a0 : -1000000 ≤ a) (b1 : b ≤ 1000000) (c0 : -1000000 ≤ c) (d1 : d ≤ 1000000) :
    mulS a b c d = (min (min (min (a * c) (a * d)) (b * c)) (b * d), max (max (max (a * c) (a * d)) (b * c)) (b * d), 0) := by
  have v := valid_ok (check_ok (a := a) (b := b) (by omega) ab (by omega)) (check_ok (a := c) (b := d) (by omega) cd (by omega))
  have m1 := mul_bd (x := a) (y := c) (B := 1000000) (C := 1000000) (by omega) (by omega) (by omega) (by omega)
  have m2 := mul_bd (x := a) (y := d) (B := 1000000) (C := 1000000) (by omega) (by omega) (by omega) (by omega)
  have m3 := mul_bd (x := b) (y := c) (B := 1000000) (C := 1000000) (by omega) (by omega) (by omega) (by omega)
  have m4 := mul_bd (x := b) (y := d) (B := 1000000) (C := 1000000) (by omega) (by omega) (by omega) (by omega)
  have one : ∀ p : Int, -1000000000000 ≤ p → p ≤ 1000000000000 → mdE p 1 = (p, p, 0) := fun p h0 h1 => by
    unfold mdE ceiQ floQ
    simp only [show ¬ (1 : Int) < 0 by omega, if_false, Int.ediv_one, Int.neg_neg]
    rw [if_pos (by omega)]
  have e1 := one (a * c) (by omega) (by omega)
  have e2 := one (a * d) (by omega) (by omega)
  have e3 := one (b * c) (by omega) (by omega)
  have e4 := one (b * d) (by omega) (by omega)
  unfold mulS combE four
  rw [if_pos v, if_pos (by simp only [err, e1, e2, e3, e4, if_true])]
  simp only [acc, List.foldl_cons, List.foldl_nil, e1, e2, e3, e4]
  congr 1
  · omega
  · congr 1; omega

theorem add_val {a b c d : Int} (ab : a ≤ b) (cd : c ≤ d) (a0 : -1000000 ≤ a) (b1 : b ≤ 1000000) (c0 : -1000000 ≤ c) (d1 : d ≤ 1000000) : addS a b c d = (a + c, b + d, 0) := by
  unfold addS
  rw [if_pos (valid_ok (check_ok (by omega) ab (by omega)) (check_ok (by omega) cd (by omega))), ends_ok (by omega) (by omega) (by omega) (by omega)]
theorem sub_val {a b c d : Int} (ab : a ≤ b) (cd : c ≤ d) (a0 : -1000000 ≤ a) (b1 : b ≤ 1000000) (c0 : -1000000 ≤ c) (d1 : d ≤ 1000000) : subS a b c d = (a - d, b - c, 0) := by
  unfold subS
  rw [if_pos (valid_ok (check_ok (by omega) ab (by omega)) (check_ok (by omega) cd (by omega))), ends_ok (by omega) (by omega) (by omega) (by omega)]

/-- the square of a span: its ends -/
theorem square_val {a b : Int} (ab : a ≤ b) (a0 : -1000000 ≤ a) (b1 : b ≤ 1000000) :
    ∃ l m : Int, squareS a b = (l, m, 0) ∧ 0 ≤ l ∧ l ≤ m ∧ m ≤ 1000000000000 ∧ m = max (a * a) (b * b) ∧ (∀ x, a ≤ x → x ≤ b → l ≤ x * x ∧ x * x ≤ m) ∧ (a ≤ 0 → 0 ≤ b → l = 0) ∧ (0 ≤ a → l = a * a) ∧ (b ≤ 0 → l = b * b) := by
  have m1 := mul_bd (x := a) (y := a) (B := 1000000) (C := 1000000) (by omega) (by omega) (by omega) (by omega)
  have m2 := mul_bd (x := b) (y := b) (B := 1000000) (C := 1000000) (by omega) (by omega) (by omega) (by omega)
  have sq_le : ∀ u v : Int, 0 ≤ u → u ≤ v → u * u ≤ v * v := fun u v h0 h => Int.mul_le_mul h h h0 (by omega)
  have neg_sq : ∀ u : Int, (-u) * (-u) = u * u := fun u => by grind
  obtain ⟨L, hL⟩ : ∃ L, max (max 0 a) (-b) = L := ⟨_, rfl⟩
  obtain ⟨M, hM⟩ : ∃ M, max (-a) b = M := ⟨_, rfl⟩
  have hLM : 0 ≤ L ∧ L ≤ M ∧ M ≤ 1000000 := by omega
  have hMM : M * M = max (a * a) (b * b) := by
    rcases Int.le_total (-a) b with h | h
    · have e : M = b := by omega
      rw [e]
      have : a * a ≤ b * b := by
        rcases Int.le_total 0 a with h2 | h2
        · exact sq_le a b h2 ab
        · have := sq_le (-a) b (by omega) h; rw [neg_sq] at this; exact this
      omega
    · have e : M = -a := by omega
      rw [e, neg_sq]
      have : b * b ≤ a * a := by
        rcases Int.le_total 0 b with h2 | h2
        · have := sq_le b (-a) h2 h; rw [neg_sq] at this; exact this
        · have := sq_le (-b) (-a) (by omega) (by omega); rw [neg_sq, neg_sq] at this; exact this
      omega
  have h0 : 0 ≤ L * L := mul_self_nonneg L
  have h1 : L * L ≤ M * M := sq_le L M hLM.1 hLM.2.1
  refine ⟨L * L, M * M, ?_, h0, h1, by omega, hMM, fun x hx hx2 => ?_, ?_, ?_, ?_⟩
  · unfold squareS
    rw [if_pos (check_ok (by omega) ab (by omega)), hL, hM, if_neg (by omega), ends_ok (by omega) (by omega) (by omega) (by omega)]
  · rcases Int.le_total 0 x with h | h
    · exact ⟨sq_le L x hLM.1 (by omega), sq_le x M h (by omega)⟩
    · have e1 := sq_le L (-x) hLM.1 (by omega)
      have e2 := sq_le (-x) M (by omega) (by omega)
      rw [neg_sq] at e1 e2
      exact ⟨e1, e2⟩
  · intro h2 h3
    have e : L = 0 := by omega
    rw [e]; rfl
  · intro h2
    have e : L = a := by omega
    rw [e]
  · intro h2
    have e : L = -b := by omega
    rw [e, neg_sq]
end Go.Proofs.Ytbcgdhldkanecaa
