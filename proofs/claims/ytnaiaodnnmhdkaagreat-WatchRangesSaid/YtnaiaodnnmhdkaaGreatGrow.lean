/- Several texts in one. -/
import Derived.Test.YtnaiaodnnmhdkaaGreatSpanB
/- Plain facts about sums, differences, products and squares of small spans: what they are, and that they enclose. -/
namespace Go.Proofs.YtnaiaodnnmhdkaaGreat
set_option linter.unusedVariables false
set_option linter.unusedSimpArgs false
open Go.RowKit

theorem in_iff {a b n : Int} (h : checkE a b = 0) : inB a b n = decide (a ≤ n ∧ n ≤ b) := by unfold inB; rw [h]; rfl
theorem valid_ok {a b c d : Int} (h1 : checkE a b = 0) (h2 : checkE c d = 0) : validE a b c d = 0 := by unfold validE; rw [if_pos h1, h2]
theorem ends_ok {a b : Int} (a0 : -1152921504606846976 ≤ a) (a1 : a ≤ 1152921504606846976) (b0 : -1152921504606846976 ≤ b) (b1 : b ≤ 1152921504606846976) : endsS a b = (a, b, 0) := by
  unfold endsS; rw [if_pos ⟨(fits_iff _).2 ⟨a0, a1⟩, (fits_iff _).2 ⟨b0, b1⟩⟩]

theorem lin_bd {x c d y : Int} (h0 : c ≤ y) (h1 : y ≤ d) : (x * c ≤ x * y ∧ x * y ≤ x * d) ∨ (x * d ≤ x * y ∧ x * y ≤ x * c) := by
  rcases Int.le_total 0 x with h | h
  · left; exact ⟨Int.mul_le_mul_of_nonneg_left h0 h, Int.mul_le_mul_of_nonneg_left h1 h⟩
  · right; exact ⟨Int.mul_le_mul_of_nonpos_left h h1, Int.mul_le_mul_of_nonpos_left h h0⟩
theorem lin_bd' {a b x c : Int} (h0 : a ≤ x) (h1 : x ≤ b) : (a * c ≤ x * c ∧ x * c ≤ b * c) ∨ (b * c ≤ x * c ∧ x * c ≤ a * c) := by
  have := lin_bd (x := c) h0 h1
  rw [Int.mul_comm c a, Int.mul_comm c b, Int.mul_comm c x] at this
  exact this
/-- a product lies among those of the ends -/
theorem mul_between {a b c d x y : Int} (h0 : a ≤ x) (h1 : x ≤ b) (h2 : c ≤ y) (h3 : y ≤ d) :
    min (min (min (a * c) (a * d)) (b * c)) (b * d) ≤ x * y ∧ x * y ≤ max (max (max (a * c) (a * d)) (b * c)) (b * d) := by
  have e1 := lin_bd (x := x) h2 h3
  have e2 := lin_bd' (c := c) h0 h1
  have e3 := lin_bd' (c := d) h0 h1
  omega

/-- products of the ends within 2^40 -/
theorem mul_val {a b c d : Int} (ab : a ≤ b) (cd : c ≤ d) (a0 : -1000000 ≤ a) (b1 : b ≤ 1000000) (c0 : -1000000 ≤ c) (d1 : d ≤ 1000000) :
    mulS a b c d = (min (min (min (a * c) (a * d)) (b * c)) (b * d), max (max (max (a * c) (a * d)) (b * c)) (b * d), 0) := by
  have v := valid_ok (check_ok (a := a) (b := b) (by omega) ab (by omega)) (check_ok (a := c) (b := d) (by omega) cd (by omega))
  have m1 := mul_bd (x := a) (y := c) (B := 1000000) (C := 1000000) (by omega) (by omega) (by omega) (by omega)
  have m2 := mul_bd (x := a) (y := d) (B := 1000000) (C := 1000000) (by omega) (by omega) (by omega) (by omega)
  have m3 := mul_bd (x := b) (y := c) (B := 1000000) (C := 1000000) (by omega) (by omega) (by omega) (by omega)
  have m4 := mul_bd (x := b) (y := d) (B := 1000000) (C := 1000000) (by omega) (by omega) (by omega) (by omega)
  have one : ∀ p : Int, -1000000000000 ≤ p → p ≤ 1000000000000 → mdE p 1 = (p, p, 0) := fun p h0 h1 => by
    unfold mdE ceiQ floQ
    simp only [show ¬ (1 : Int) < 0 by omega, if_false, Int.ediv_one, Int.neg_neg]
    rw [if_pos (by omega)]
  have e1 := one (a * c) (by omega) (by omega)
  have e2 := one (a * d) (by omega) (by omega)
  have e3 := one (b * c) (by omega) (by omega)
  have e4 := one (b * d) (by omega) (by omega)
  unfold mulS combE four
  rw [if_pos v, if_pos (by simp only [err, e1, e2, e3, e4, if_true])]
  simp only [acc, List.foldl_cons, List.foldl_nil, e1, e2, e3, e4]
  congr 1
  · omega
  · congr 1; omega

theorem add_val {a b c d : Int} (ab : a ≤ b) (cd : c ≤ d) (a0 : -1000000 ≤ a) (b1 : b ≤ 1000000) (c0 : -1000000 ≤ c) (d1 : d ≤ 1000000) : addS a b c d = (a + c, b + d, 0) := by
  unfold addS
  rw [if_pos (valid_ok (check_ok (by omega) ab (by omega)) (check_ok (by omega) cd (by omega))), ends_ok (by omega) (by omega) (by omega) (by omega)]
theorem sub_val {a b c d : Int} (ab : a ≤ b) (cd : c ≤ d) (a0 : -1000000 ≤ a) (b1 : b ≤ 1000000) (c0 : -1000000 ≤ c) (d1 : d ≤ 1000000) : subS a b c d = (a - d, b - c, 0) := by
  unfold subS
  rw [if_pos (valid_ok (check_ok (by omega) ab (by omega)) (check_ok (by omega) cd (by omega))), ends_ok (by omega) (by omega) (by omega) (by omega)]

/-- the square of a span: its ends -/
theorem square_val {a b : Int} (ab : a ≤ b) (a0 : -1000000 ≤ a) (b1 : b ≤ 1000000) :
    ∃ l m : Int, squareS a b = (l, m, 0) ∧ 0 ≤ l ∧ l ≤ m ∧ m ≤ 1000000000000 ∧ m = max (a * a) (b * b) ∧ (∀ x, a ≤ x → x ≤ b → l ≤ x * x ∧ x * x ≤ m) ∧ (a ≤ 0 → 0 ≤ b → l = 0) ∧ (0 ≤ a → l = a * a) ∧ (b ≤ 0 → l = b * b) := by
  have m1 := mul_bd (x := a) (y := a) (B := 1000000) (C := 1000000) (by omega) (by omega) (by omega) (by omega)
  have m2 := mul_bd (x := b) (y := b) (B := 1000000) (C := 1000000) (by omega) (by omega) (by omega) (by omega)
  have sq_le : ∀ u v : Int, 0 ≤ u → u ≤ v → u * u ≤ v * v := fun u v h0 h => Int.mul_le_mul h h h0 (by omega)
  have neg_sq : ∀ u : Int, (-u) * (-u) = u * u := fun u => by grind
  obtain ⟨L, hL⟩ : ∃ L, max (max 0 a) (-b) = L := ⟨_, rfl⟩
  obtain ⟨M, hM⟩ : ∃ M, max (-a) b = M := ⟨_, rfl⟩
  have hLM : 0 ≤ L ∧ L ≤ M ∧ M ≤ 1000000 := by omega
  have hMM : M * M = max (a * a) (b * b) := by
    rcases Int.le_total (-a) b with h | h
    · have e : M = b := by omega
      rw [e]
      have : a * a ≤ b * b := by
        rcases Int.le_total 0 a with h2 | h2
        · exact sq_le a b h2 ab
        · have := sq_le (-a) b (by omega) h; rw [neg_sq] at this; exact this
      omega
    · have e : M = -a := by omega
      rw [e, neg_sq]
      have : b * b ≤ a * a := by
        rcases Int.le_total 0 b with h2 | h2
        · have := sq_le b (-a) h2 h; rw [neg_sq] at this; exact this
        · have := sq_le (-b) (-a) (by omega) (by omega); rw [neg_sq, neg_sq] at this; exact this
      omega
  have h0 : 0 ≤ L * L := mul_self_nonneg L
  have h1 : L * L ≤ M * M := sq_le L M hLM.1 hLM.2.1
  refine ⟨L * L, M * M, ?_, h0, h1, by omega, hMM, fun x hx hx2 => ?_, ?_, ?_, ?_⟩
  · unfold squareS
    rw [if_pos (check_ok (by omega) ab (by omega)), hL, hM, if_neg (by omega), ends_ok (by omega) (by omega) (by omega) (by omega)]
  · rcases Int.le_total 0 x with h | h
    · exact ⟨sq_le L x hLM.1 (by omega), sq_le x M h (by omega)⟩
    · have e1 := sq_le L (-x) hLM.1 (by omega)
      have e2 := sq_le (-x) M (by omega) (by omega)
      rw [neg_sq] at e1 e2
      exact ⟨e1, e2⟩
  · intro h2 h3
    have e : L = 0 := by omega
    rw [e]; rfl
  · intro h2
    have e : L = a := by omega
    rw [e]
  · intro h2
    have e : L = -b := by omega
    rw [e, neg_sq]
end Go.Proofs.YtnaiaodnnmhdkaaGreat

/- Plain facts about quotients of small spans: what they are, and that they enclose. -/
namespace Go.Proofs.YtnaiaodnnmhdkaaGreat
set_option linter.unusedVariables false
set_option linter.unusedSimpArgs false
open Go.RowKit

theorem flo_iff (n p c : Int) (hc : c ≠ 0) : n ≤ floQ p c ↔ (0 < c ∧ n * c ≤ p) ∨ (c < 0 ∧ p ≤ n * c) := by
  unfold floQ
  split
  · rename_i h
    rw [Int.le_ediv_iff_mul_le (by omega), Int.mul_neg]
    omega
  · rename_i h
    rw [Int.le_ediv_iff_mul_le (by omega)]
    omega
theorem flo_bd {p c : Int} (hc : c ≠ 0) (p0 : -1000000 ≤ p) (p1 : p ≤ 1000000) : -1000000 ≤ floQ p c ∧ floQ p c ≤ 1000000 := by
  refine ⟨(flo_iff _ _ _ hc).2 (by omega), ?_⟩
  have h := mt (flo_iff 1000001 p c hc).1
  by_cases h2 : floQ p c ≤ 1000000
  · exact h2
  · have := (flo_iff 1000001 p c hc).1 (by omega)
    omega
theorem md_val {p c : Int} (hc : c ≠ 0) (p0 : -1000000 ≤ p) (p1 : p ≤ 1000000) : mdE p c = (floQ p c, ceiQ p c, 0) := by
  have h1 := flo_bd hc p0 p1
  have h2 := flo_bd (p := -p) hc (by omega) (by omega)
  unfold mdE ceiQ
  rw [if_pos (by omega)]
theorem cei_flo {p c : Int} (hc : c ≠ 0) : floQ p c ≤ ceiQ p c := by
  unfold ceiQ
  have h1 := (flo_iff (floQ p c) p c hc).1 (Int.le_refl _)
  have h2 := (flo_iff (floQ (-p) c) (-p) c hc).1 (Int.le_refl _)
  by_cases h : floQ p c ≤ -floQ (-p) c
  · exact h
  · have h3 : 1 ≤ floQ p c + floQ (-p) c := by omega
    have e : (floQ p c + floQ (-p) c) * c = floQ p c * c + floQ (-p) c * c := Int.add_mul _ _ _
    rcases Int.lt_or_gt_of_ne hc with hc0 | hc0
    · have := Int.mul_le_mul_of_nonpos_right h3 (show c ≤ 0 by omega)
      omega
    · have := Int.mul_le_mul_of_nonneg_right h3 (show 0 ≤ c by omega)
      omega

/-- a floor among those of the corners -/
theorem flo_between {a b c d x y n : Int} (h0 : a ≤ x) (h1 : x ≤ b) (h2 : c ≤ y) (h3 : y ≤ d) (hz : ¬ (c ≤ 0 ∧ 0 ≤ d))
    (n1 : n ≤ floQ a c) (n2 : n ≤ floQ a d) (n3 : n ≤ floQ b c) (n4 : n ≤ floQ b d) : n ≤ floQ x y := by
  rw [flo_iff _ _ _ (by omega)] at n1 n2 n3 n4 ⊢
  have e := lin_bd (x := n) h2 h3
  omega

theorem quot_val {a b c d : Int} (ab : a ≤ b) (cd : c ≤ d) (a0 : -1000000 ≤ a) (b1 : b ≤ 1000000) (c0 : -1000000 ≤ c) (d1 : d ≤ 1000000) (hz : ¬ (c ≤ 0 ∧ 0 ≤ d)) :
    ∃ l m : Int, quotS a b c d = (l, m, 0) ∧ -1000000 ≤ l ∧ l ≤ m ∧ m ≤ 1000000 ∧ (∀ x y, a ≤ x → x ≤ b → c ≤ y → y ≤ d → l ≤ floQ x y ∧ ceiQ x y ≤ m) ∧ (l = floQ a c ∨ l = floQ a d ∨ l = floQ b c ∨ l = floQ b d) ∧ (m = ceiQ a c ∨ m = ceiQ a d ∨ m = ceiQ b c ∨ m = ceiQ b d) := by
  have v := valid_ok (check_ok (a := a) (b := b) (by omega) ab (by omega)) (check_ok (a := c) (b := d) (by omega) cd (by omega))
  have hc : c ≠ 0 := by omega
  have hd : d ≠ 0 := by omega
  have e1 := md_val (p := a) hc (by omega) (by omega)
  have e2 := md_val (p := a) hd (by omega) (by omega)
  have e3 := md_val (p := b) hc (by omega) (by omega)
  have e4 := md_val (p := b) hd (by omega) (by omega)
  have b1' := flo_bd (p := a) hc (by omega) (by omega)
  have b2' := flo_bd (p := a) hd (by omega) (by omega)
  have b3' := flo_bd (p := b) hc (by omega) (by omega)
  have b4' := flo_bd (p := b) hd (by omega) (by omega)
  have g1 := flo_bd (p := -a) hc (by omega) (by omega)
  have g2 := flo_bd (p := -a) hd (by omega) (by omega)
  have g3 := flo_bd (p := -b) hc (by omega) (by omega)
  have g4 := flo_bd (p := -b) hd (by omega) (by omega)
  have f1 := cei_flo (p := a) hc
  have f2 := cei_flo (p := a) hd
  have f3 := cei_flo (p := b) hc
  have f4 := cei_flo (p := b) hd
  obtain ⟨l, hl⟩ : ∃ l, min (min (min (floQ a c) (floQ a d)) (floQ b c)) (floQ b d) = l := ⟨_, rfl⟩
  obtain ⟨m, hm⟩ : ∃ m, max (max (max (ceiQ a c) (ceiQ a d)) (ceiQ b c)) (ceiQ b d) = m := ⟨_, rfl⟩
  have hce : ∀ p q, ceiQ p q = -floQ (-p) q := fun _ _ => rfl
  rw [hce, hce, hce, hce] at hm
  refine ⟨l, m, ?_, by omega, ?_, by omega, fun x y h0 h1 h2 h3 => ⟨?_, ?_⟩, by omega, ?_⟩
  · unfold quotS
    rw [if_pos v, if_neg hz]
    unfold combE four
    rw [if_pos v, if_pos (by simp only [err, e1, e2, e3, e4, if_true])]
    simp only [acc, List.foldl_cons, List.foldl_nil, e1, e2, e3, e4]
    rw [hce, hce, hce, hce]
    congr 1
    · omega
    · congr 1; omega
  · rw [hce] at f1; omega
  · exact flo_between h0 h1 h2 h3 hz (by omega) (by omega) (by omega) (by omega)
  · rw [hce]
    have := flo_between (a := -b) (b := -a) (x := -x) (n := -m) (by omega) (by omega) h2 h3 hz (by omega) (by omega) (by omega) (by omega)
    omega
  · rw [hce, hce, hce, hce]; omega
end Go.Proofs.YtnaiaodnnmhdkaaGreat

/- Plain facts: what is computed of spans inside others lies inside what is computed of these. No program. -/
namespace Go.Proofs.YtnaiaodnnmhdkaaGreat
set_option linter.unusedVariables false
set_option linter.unusedSimpArgs false
open Go.RowKit

theorem inside_iff {a b c d : Int} (h1 : checkE a b = 0) (h2 : checkE c d = 0) : insideB a b c d = decide (c ≤ a ∧ b ≤ d) := by
  unfold insideB; rw [valid_ok h1 h2, Bool.decide_and]; rfl

theorem isq_mono {x y : Int} (x0 : 0 ≤ x) (h : x ≤ y) (y1 : y < 18446744073709551616) : isq x ≤ isq y := by
  obtain ⟨a0, a1, a2⟩ := isq_spec x x0 (by omega)
  obtain ⟨b0, b1, b2⟩ := isq_spec y (by omega) y1
  refine Int.not_lt.1 fun hc => ?_
  have := Int.mul_le_mul (show isq y + 1 ≤ isq x by omega) (show isq y + 1 ≤ isq x by omega) (by omega) a0
  omega
def upq (x : Int) : Int := if isq x * isq x < x then isq x + 1 else isq x
theorem upq_spec {x : Int} (x0 : 0 ≤ x) (x1 : x < 18446744073709551616) : 0 ≤ upq x ∧ isq x ≤ upq x ∧ x ≤ upq x * upq x ∧ (upq x = 0 ∨ (upq x - 1) * (upq x - 1) < x) := by
  obtain ⟨a0, a1, a2⟩ := isq_spec x x0 x1
  unfold upq
  split
  · rename_i h
    refine ⟨by omega, by omega, by omega, .inr ?_⟩
    rw [show isq x + 1 - 1 = isq x by omega]; exact h
  · rename_i h
    refine ⟨a0, Int.le_refl _, by omega, ?_⟩
    by_cases hz : isq x = 0
    · exact .inl hz
    · right
      have : (isq x - 1) * (isq x - 1) = isq x * isq x - 2 * isq x + 1 := by grind
      omega
theorem upq_mono {x y : Int} (x0 : 0 ≤ x) (h : x ≤ y) (y1 : y < 18446744073709551616) : upq x ≤ upq y := by
  obtain ⟨a0, a1, a2, a3⟩ := upq_spec x0 (by omega)
  obtain ⟨b0, b1, b2, b3⟩ := upq_spec (x := y) (by omega) y1
  refine Int.not_lt.1 fun hc => ?_
  rcases a3 with a3 | a3
  · omega
  · have := Int.mul_le_mul (show upq y ≤ upq x - 1 by omega) (show upq y ≤ upq x - 1 by omega) b0 (by omega)
    omega

theorem grow_sums {a b c d A B C D : Int} (A0 : -2000 ≤ A) (Aa : A ≤ a) (ab : a ≤ b) (bB : b ≤ B) (B1 : B ≤ 2000) (C0 : -2000 ≤ C) (Cc : C ≤ c) (cd : c ≤ d) (dD : d ≤ D) (D1 : D ≤ 2000) :
    addS a b c d = (a + c, b + d, 0) ∧ addS A B C D = (A + C, B + D, 0) ∧ insideB (a + c) (b + d) (A + C) (B + D) = true ∧
      subS a b c d = (a - d, b - c, 0) ∧ subS A B C D = (A - D, B - C, 0) ∧ insideB (a - d) (b - c) (A - D) (B - C) = true := by
  refine ⟨add_val (by omega) (by omega) (by omega) (by omega) (by omega) (by omega), add_val (by omega) (by omega) (by omega) (by omega) (by omega) (by omega), ?_,
    sub_val (by omega) (by omega) (by omega) (by omega) (by omega) (by omega), sub_val (by omega) (by omega) (by omega) (by omega) (by omega) (by omega), ?_⟩
  · rw [inside_iff (check_ok (by omega) (by omega) (by omega)) (check_ok (by omega) (by omega) (by omega)), decide_eq_true_eq]; omega
  · rw [inside_iff (check_ok (by omega) (by omega) (by omega)) (check_ok (by omega) (by omega) (by omega)), decide_eq_true_eq]; omega

theorem grow_mul {a b c d A B C D : Int} (A0 : -2000 ≤ A) (Aa : A ≤ a) (ab : a ≤ b) (bB : b ≤ B) (B1 : B ≤ 2000) (C0 : -2000 ≤ C) (Cc : C ≤ c) (cd : c ≤ d) (dD : d ≤ D) (D1 : D ≤ 2000) :
    ∃ p q P Q : Int, mulS a b c d = (p, q, 0) ∧ mulS A B C D = (P, Q, 0) ∧ insideB p q P Q = true := by
  have m1 := mul_bd (x := a) (y := c) (B := 2000) (C := 2000) (by omega) (by omega) (by omega) (by omega)
  have m2 := mul_bd (x := a) (y := d) (B := 2000) (C := 2000) (by omega) (by omega) (by omega) (by omega)
  have m3 := mul_bd (x := b) (y := c) (B := 2000) (C := 2000) (by omega) (by omega) (by omega) (by omega)
  have m4 := mul_bd (x := b) (y := d) (B := 2000) (C := 2000) (by omega) (by omega) (by omega) (by omega)
  have n1 := mul_bd (x := A) (y := C) (B := 2000) (C := 2000) (by omega) (by omega) (by omega) (by omega)
  have n2 := mul_bd (x := A) (y := D) (B := 2000) (C := 2000) (by omega) (by omega) (by omega) (by omega)
  have n3 := mul_bd (x := B) (y := C) (B := 2000) (C := 2000) (by omega) (by omega) (by omega) (by omega)
  have n4 := mul_bd (x := B) (y := D) (B := 2000) (C := 2000) (by omega) (by omega) (by omega) (by omega)
  have b1 := mul_between (a := A) (b := B) (c := C) (d := D) (x := a) (y := c) (by omega) (by omega) (by omega) (by omega)
  have b2 := mul_between (a := A) (b := B) (c := C) (d := D) (x := a) (y := d) (by omega) (by omega) (by omega) (by omega)
  have b3 := mul_between (a := A) (b := B) (c := C) (d := D) (x := b) (y := c) (by omega) (by omega) (by omega) (by omega)
  have b4 := mul_between (a := A) (b := B) (c := C) (d := D) (x := b) (y := d) (by omega) (by omega) (by omega) (by omega)
  refine ⟨_, _, _, _, mul_val ab cd (by omega) (by omega) (by omega) (by omega), mul_val (by omega) (by omega) (by omega) (by omega) (by omega) (by omega), ?_⟩
  rw [inside_iff (check_ok (by omega) (by omega) (by omega)) (check_ok (by omega) (by omega) (by omega)), decide_eq_true_eq]; omega

theorem grow_square {a b A B : Int} (A0 : -2000 ≤ A) (Aa : A ≤ a) (ab : a ≤ b) (bB : b ≤ B) (B1 : B ≤ 2000) :
    ∃ p q P Q : Int, squareS a b = (p, q, 0) ∧ squareS A B = (P, Q, 0) ∧ insideB p q P Q = true := by
  obtain ⟨l, m, hs, l0, lm, mm, hm, hq, z1, z2, z3⟩ := square_val (a := a) (b := b) (by omega) (by omega) (by omega)
  obtain ⟨L, M, hS, L0, LM, MM, hM, hQ, _, _, _⟩ := square_val (a := A) (b := B) (by omega) (by omega) (by omega)
  refine ⟨l, m, L, M, hs, hS, ?_⟩
  have e1 := hQ a (by omega) (by omega)
  have e2 := hQ b (by omega) (by omega)
  have e3 : L ≤ l := by
    rcases Int.le_total 0 a with h | h
    · rw [z2 h]; exact e1.1
    · rcases Int.le_total b 0 with h2 | h2
      · rw [z3 h2]; exact e2.1
      · have := z1 h h2
        have := hQ 0 (by omega) (by omega)
        omega
  rw [inside_iff (check_ok (by omega) (by omega) (by omega)) (check_ok (by omega) (by omega) (by omega)), decide_eq_true_eq]; omega

theorem grow_quot {a b c d A B C D : Int} (A0 : -2000 ≤ A) (Aa : A ≤ a) (ab : a ≤ b) (bB : b ≤ B) (B1 : B ≤ 2000) (C0 : -2000 ≤ C) (Cc : C ≤ c) (cd : c ≤ d) (dD : d ≤ D) (D1 : D ≤ 2000) :
    (∃ p q e : Int, quotS A B C D = (0, 0, 2) ∧ quotS a b c d = (p, q, e)) ∨ ∃ p q P Q : Int, quotS a b c d = (p, q, 0) ∧ quotS A B C D = (P, Q, 0) ∧ insideB p q P Q = true := by
  by_cases h : C ≤ 0 ∧ 0 ≤ D
  · left
    refine ⟨_, _, _, ?_, rfl⟩
    unfold quotS
    rw [if_pos (valid_ok (check_ok (by omega) (by omega) (by omega)) (check_ok (by omega) (by omega) (by omega))), if_pos h]
  · right
    obtain ⟨l, m, hq, l0, lm, m0, hin, hl, hm⟩ := quot_val (a := a) (b := b) (c := c) (d := d) (by omega) (by omega) (by omega) (by omega) (by omega) (by omega) (by omega)
    obtain ⟨L, M, hQ, L0, LM, M0, hIn, _, _⟩ := quot_val (a := A) (b := B) (c := C) (d := D) (by omega) (by omega) (by omega) (by omega) (by omega) (by omega) h
    refine ⟨l, m, L, M, hq, hQ, ?_⟩
    have e1 := hIn a c (by omega) (by omega) (by omega) (by omega)
    have e2 := hIn a d (by omega) (by omega) (by omega) (by omega)
    have e3 := hIn b c (by omega) (by omega) (by omega) (by omega)
    have e4 := hIn b d (by omega) (by omega) (by omega) (by omega)
    rw [inside_iff (check_ok (by omega) (by omega) (by omega)) (check_ok (by omega) (by omega) (by omega)), decide_eq_true_eq]; omega

theorem grow_roots {a b A B : Int} (A0 : -2000 ≤ A) (Aa : A ≤ a) (ab : a ≤ b) (bB : b ≤ B) (B1 : B ≤ 2000) :
    (∃ p q e : Int, rootsS A B = (0, 0, 2) ∧ rootsS a b = (p, q, e)) ∨ ∃ p q P Q : Int, rootsS a b = (p, q, 0) ∧ rootsS A B = (P, Q, 0) ∧ insideB p q P Q = true := by
  by_cases h : A < 0
  · left
    refine ⟨_, _, _, ?_, rfl⟩
    unfold rootsS
    rw [if_pos (check_ok (by omega) (by omega) (by omega)), if_pos h]
  · right
    refine ⟨isq a, upq b, isq A, upq B, ?_, ?_, ?_⟩
    · unfold rootsS upq; rw [if_pos (check_ok (by omega) (by omega) (by omega)), if_neg (by omega)]
    · unfold rootsS upq; rw [if_pos (check_ok (by omega) (by omega) (by omega)), if_neg (by omega)]
    · have m1 := isq_mono (x := A) (y := a) (by omega) Aa (by omega)
      have m2 := isq_mono (x := a) (y := b) (by omega) ab (by omega)
      have m3 := upq_mono (x := b) (y := B) (by omega) bB (by omega)
      obtain ⟨s0, s1, _⟩ := isq_spec A (by omega) (by omega)
      obtain ⟨_, t1, t2, t3⟩ := upq_spec (x := b) (by omega) (by omega)
      obtain ⟨u0, _, _, u3⟩ := upq_spec (x := B) (by omega) (by omega)
      have u4 : upq B ≤ 2001 := by
        rcases u3 with u3 | u3
        · omega
        · refine Int.not_lt.1 fun hc => ?_
          have := Int.mul_le_mul (show 2001 ≤ upq B - 1 by omega) (show 2001 ≤ upq B - 1 by omega) (by omega) (by omega)
          omega
      rw [inside_iff (check_ok (by omega) (by omega) (by omega)) (check_ok (by omega) (by omega) (by omega)), decide_eq_true_eq]; omega
end Go.Proofs.YtnaiaodnnmhdkaaGreat

