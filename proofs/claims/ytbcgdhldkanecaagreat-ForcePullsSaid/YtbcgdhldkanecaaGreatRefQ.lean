/- Several texts in one. -/
import Derived.Test.YtbcgdhldkanecaaGreatSpanB
import Derived.Test.YtbcgdhldkanecaaGreatForceP
/- The document's own functions about spans: what they return. No conditions. -/
namespace Go.Proofs.YtbcgdhldkanecaaGreat
set_option linter.unusedVariables false
set_option linter.unusedSimpArgs false
open Go.RowKit

theorem rfits_any (n : Int) (w : World) : Gives Tryz.prog 129 #[.int .i64 n] w (.bool (fitsB n)) := by
  (unfold Gives; go_enter Tryz.func129, Tryz.ntmps129)
  go_wp2_with (go_at_call 128; refine (rbetween_any _ _ _ _).mono ?_; intro _)
  go_ret
  exact ⟨rfl, _, rfl⟩

theorem rcheck_any (lo hi : Int) (w : World) : Gives Tryz.prog 119 #[.agg #[.int .i64 lo, .int .i64 hi]] w (.int .i64 (checkE lo hi)) := by
  (unfold Gives; go_enter Tryz.func119, Tryz.ntmps119)
  go_wp2_with (go_at_call 129; refine (rfits_any _ _).mono ?_; intro _)
  all_goals (go_ret; refine ⟨ret_int ?_, (by repeat (first | with_reducible exact Up.refl _ | with_reducible apply Up.plus | apply Up.ext | apply Up.alloc | apply Up.drew | (refine Up.setCell ?_ (by simp; try omega) _)))⟩)
  all_goals (go_light; first | (simp_all [checkE]; done) | (simp_all [checkE]; omega) | (simp_all [checkE]; repeat' split; all_goals (first | (simp_all; done) | omega | (simp_all; omega))))

theorem rboth_any (a b c d : Int) (w : World) : Gives Tryz.prog 105 #[.agg #[.int .i64 a, .int .i64 b], .agg #[.int .i64 c, .int .i64 d]] w (.int .i64 (validE a b c d)) := by
  (unfold Gives; go_enter Tryz.func105, Tryz.ntmps105)
  go_wp2_with (go_at_call 119; refine (rcheck_any _ _ _).mono ?_; intro _)
  all_goals (go_ret; refine ⟨ret_int ?_, (by repeat (first | with_reducible exact Up.refl _ | with_reducible apply Up.plus | apply Up.ext | apply Up.alloc | apply Up.drew | (refine Up.setCell ?_ (by simp; try omega) _)))⟩)
  all_goals (go_light; first | (simp_all [validE]; done) | (simp_all [validE]; omega) | (simp_all [validE]; repeat' split; all_goals (first | (simp_all; done) | omega | (simp_all; omega))))

theorem rcheckarea_any (a b c d : Int) (w : World) : Gives Tryz.prog 76 #[.agg #[.int .i64 a, .int .i64 b, .int .i64 c, .int .i64 d]] w (.int .i64 (areaE a b c d)) := by
  (unfold Gives; go_enter Tryz.func76, Tryz.ntmps76)
  go_wp2_with (first | (go_at_call 105; refine (rboth_any _ _ _ _ _).mono ?_; intro _) | (go_at_call 106; refine (rfar_any _ _).mono ?_; intro _))
  all_goals (go_ret; refine ⟨ret_int ?_, (by repeat (first | with_reducible exact Up.refl _ | with_reducible apply Up.plus | apply Up.ext | apply Up.alloc | apply Up.drew | (refine Up.setCell ?_ (by simp; try omega) _)))⟩)
  all_goals (go_light; first | (simp_all [areaE, farA]; done) | (simp_all [areaE, farA]; omega) | (simp_all [areaE, farA]; repeat' split; all_goals (first | (simp_all; done) | omega | (simp_all; omega))))

theorem rresult_any (lo hi : Int) (w : World) : Gives Tryz.prog 109 #[.int .i64 lo, .int .i64 hi] w (.tuple #[.agg #[.int .i64 (endsS lo hi).1, .int .i64 (endsS lo hi).2.1], .int .i64 (endsS lo hi).2.2]) := by
  (unfold Gives; go_enter Tryz.func109, Tryz.ntmps109)
  go_wp2_with (go_at_call 129; refine (rfits_any _ _).mono ?_; intro _)
  all_goals (refine bodyPost_give (by repeat (first | with_reducible exact Up.refl _ | with_reducible apply Up.plus | apply Up.ext | apply Up.alloc | apply Up.drew | (refine Up.setCell ?_ (by simp; try omega) _))) rfl ⟨_, (by simp [results, Tryz.results109, go_sem]; rfl), ?_⟩)
  all_goals (go_light; first | (simp_all [endsS]; done) | (simp_all [endsS]; omega) | (simp_all [endsS]; repeat' split; all_goals (first | (simp_all; done) | omega | (simp_all; omega))))

theorem radd_any (a b c d : Int) (w : World) : Gives Tryz.prog 83 #[.agg #[.int .i64 a, .int .i64 b], .agg #[.int .i64 c, .int .i64 d]] w
    (.tuple #[.agg #[.int .i64 (addS a b c d).1, .int .i64 (addS a b c d).2.1], .int .i64 (addS a b c d).2.2]) := by
  by_cases hv : validE a b c d = 0
  · obtain ⟨h1, h2⟩ := valid_zero hv
    obtain ⟨a0, a1, a2⟩ := check_zero h1
    obtain ⟨c0, c1, c2⟩ := check_zero h2
    have hvb : (validE a b c d != 0) = false := by simp [hv]
    rw [show addS a b c d = endsS (a + c) (b + d) by unfold addS; rw [if_pos hv]]
    clear h1 h2 hv
    (unfold Gives; go_enter Tryz.func83, Tryz.ntmps83)
    go_wp2_with (first | (go_at_call 105; refine (rboth_any _ _ _ _ _).mono ?_; intro _) | (go_at_call 109; refine (rresult_any _ _ _).mono ?_; intro _))
    all_goals (refine bodyPost_give (by repeat (first | with_reducible exact Up.refl _ | with_reducible apply Up.plus | apply Up.ext | apply Up.alloc | apply Up.drew | (refine Up.setCell ?_ (by simp; try omega) _))) rfl ⟨_, (by simp [results, Tryz.results83, go_sem]; rfl), ?_⟩)
    all_goals rfl
  · have hvb : (validE a b c d != 0) = true := by simp [hv]
    rw [show addS a b c d = (0, 0, validE a b c d) by unfold addS; rw [if_neg hv]]
    clear hv
    (unfold Gives; go_enter Tryz.func83, Tryz.ntmps83)
    go_wp2_with (go_at_call 105; refine (rboth_any _ _ _ _ _).mono ?_; intro _)
    all_goals (refine bodyPost_give (by repeat (first | with_reducible exact Up.refl _ | with_reducible apply Up.plus | apply Up.ext | apply Up.alloc | apply Up.drew | (refine Up.setCell ?_ (by simp; try omega) _))) rfl ⟨_, (by simp [results, Tryz.results83, go_sem]; rfl), ?_⟩)
    all_goals rfl

theorem rsub_any (a b c d : Int) (w : World) : Gives Tryz.prog 94 #[.agg #[.int .i64 a, .int .i64 b], .agg #[.int .i64 c, .int .i64 d]] w
    (.tuple #[.agg #[.int .i64 (subS a b c d).1, .int .i64 (subS a b c d).2.1], .int .i64 (subS a b c d).2.2]) := by
  by_cases hv : validE a b c d = 0
  · obtain ⟨h1, h2⟩ := valid_zero hv
    obtain ⟨a0, a1, a2⟩ := check_zero h1
    obtain ⟨c0, c1, c2⟩ := check_zero h2
    have hvb : (validE a b c d != 0) = false := by simp [hv]
    rw [show subS a b c d = endsS (a - d) (b - c) by unfold subS; rw [if_pos hv]]
    clear h1 h2 hv
    (unfold Gives; go_enter Tryz.func94, Tryz.ntmps94)
    go_wp2_with (first | (go_at_call 105; refine (rboth_any _ _ _ _ _).mono ?_; intro _) | (go_at_call 109; refine (rresult_any _ _ _).mono ?_; intro _))
    all_goals (refine bodyPost_give (by repeat (first | with_reducible exact Up.refl _ | with_reducible apply Up.plus | apply Up.ext | apply Up.alloc | apply Up.drew | (refine Up.setCell ?_ (by simp; try omega) _))) rfl ⟨_, (by simp [results, Tryz.results94, go_sem]; rfl), ?_⟩)
    all_goals rfl
  · have hvb : (validE a b c d != 0) = true := by simp [hv]
    rw [show subS a b c d = (0, 0, validE a b c d) by unfold subS; rw [if_neg hv]]
    clear hv
    (unfold Gives; go_enter Tryz.func94, Tryz.ntmps94)
    go_wp2_with (go_at_call 105; refine (rboth_any _ _ _ _ _).mono ?_; intro _)
    all_goals (refine bodyPost_give (by repeat (first | with_reducible exact Up.refl _ | with_reducible apply Up.plus | apply Up.ext | apply Up.alloc | apply Up.drew | (refine Up.setCell ?_ (by simp; try omega) _))) rfl ⟨_, (by simp [results, Tryz.results94, go_sem]; rfl), ?_⟩)
    all_goals rfl
end Go.Proofs.YtbcgdhldkanecaaGreat

/- Signs of cross and dot products: those of the exact numbers, in the program. Numbers that fit 64 bits. -/
namespace Go.Proofs.YtbcgdhldkanecaaGreat
set_option linter.unusedVariables false
set_option linter.unusedSimpArgs false
open Go.RowKit

def sgnI (x : Int) : Int := if x < 0 then -1 else if x = 0 then 0 else 1

theorem mag_mul (a b : Int) : (a.natAbs : Int) * b.natAbs = ((a * b).natAbs : Int) := by rw [Int.natAbs_mul]; exact (Int.natCast_mul _ _).symm

theorem sgnW_eq (p : Int) (b : Bool) (hb : b = decide (p < 0) ∨ p = 0) : sgnW ((p.natAbs : Int) / 18446744073709551616) ((p.natAbs : Int) % 18446744073709551616) b = sgnI p := by
  unfold sgnW sgnI
  rcases hb with rfl | rfl
  · by_cases h : p < 0
    · rw [if_neg (by omega), if_pos (by simpa using h), if_pos h]
    · rw [if_neg h]
      by_cases h0 : p = 0
      · rw [if_pos (by omega), if_pos h0]
      · rw [if_neg (by omega), if_neg (by simpa using h), if_neg h0]
  · rfl

theorem cmpW_eq (p q : Int) (b b' : Bool) (hb : b = decide (p < 0) ∨ p = 0) (hb' : b' = decide (q < 0) ∨ q = 0) :
    cmpW ((p.natAbs : Int) / 18446744073709551616) ((p.natAbs : Int) % 18446744073709551616) b ((q.natAbs : Int) / 18446744073709551616) ((q.natAbs : Int) % 18446744073709551616) b' = sgnI (p - q) := by
  unfold cmpW
  rw [sgnW_eq p b hb, sgnW_eq q b' hb', less_split]
  simp only [decide_eq_true_eq]
  unfold sgnI
  split
  · split
    · split <;> (repeat' split) <;> omega
    · split <;> (repeat' split) <;> (repeat' split at *) <;> omega
  · (repeat' split) <;> (repeat' split at *) <;> omega

theorem crossV_eq (a b c d : Int) : crossV a b c d = sgnI (a * d - b * c) := by
  unfold crossV
  rw [mag_mul, mag_mul]
  exact cmpW_eq _ _ _ _ (sgn_product a d) (sgn_product b c)
theorem dotV_eq (a b c d : Int) : dotV a b c d = sgnI (a * c + b * d) := by
  unfold dotV
  rw [mag_mul, mag_mul, show a * c + b * d = a * c - -(b * d) by omega, show ((b * d).natAbs : Int) = ((-(b * d)).natAbs : Int) by omega]
  refine cmpW_eq _ _ _ _ (sgn_product a c) ?_
  rcases sgn_product b d with h | h
  · by_cases h0 : b * d = 0
    · right; omega
    · left
      rw [h, ← decide_not]
      exact decide_eq_decide.2 (by omega)
  · right; omega

theorem sgnI_bd (x : Int) : -1 ≤ sgnI x ∧ sgnI x ≤ 1 := by unfold sgnI; split <;> (try split) <;> omega

end Go.Proofs.YtbcgdhldkanecaaGreat

/- The document's own bisection for how near a segment comes. -/
namespace Go.Proofs.YtbcgdhldkanecaaGreat
set_option linter.unusedVariables false
set_option linter.unusedSimpArgs false
open Go.RowKit

theorem pow30 (T : Nat) (h : T < 536870912) : (T : Int) ≤ -1 + ((2 ^ 30 : Nat) : Int) := by
  have : ((2 ^ 30 : Nat) : Int) = 1073741824 := by decide
  omega
theorem half_powR (n : Nat) : ((2 ^ (n + 1) : Nat) : Int) / 2 = ((2 ^ n : Nat) : Int) := by rw [Nat.pow_succ]; omega
theorem pow_le30 {n : Nat} (h : n ≤ 30) : 2 ^ n ≤ 1073741824 := Nat.pow_le_pow_right (by omega) h

end Go.Proofs.YtbcgdhldkanecaaGreat

/- Signs of cross and dot products: those of the exact numbers, in the document. Numbers that fit 64 bits. -/
namespace Go.Proofs.YtbcgdhldkanecaaGreat
set_option linter.unusedVariables false
set_option linter.unusedSimpArgs false
open Go.RowKit

theorem orderW_eq (x y : Int) : orderW (x / 18446744073709551616) (x % 18446744073709551616) (y / 18446744073709551616) (y % 18446744073709551616) = sgnI (x - y) := by
  unfold orderW sgnI
  rw [less_split]
  simp only [decide_eq_true_eq]
  (repeat' split) <;> omega

def cmpR (n : Bool) (h l : Int) (n' : Bool) (h' l' : Int) : Int := if n = true ∧ n' = false then -1 else if n = false ∧ n' = true then 1 else if n = true then orderW h' l' h l else orderW h l h' l'
theorem cmpR_eq (p q : Int) : cmpR (decide (p < 0)) ((p.natAbs : Int) / 18446744073709551616) ((p.natAbs : Int) % 18446744073709551616) (decide (q < 0)) ((q.natAbs : Int) / 18446744073709551616) ((q.natAbs : Int) % 18446744073709551616) = sgnI (p - q) := by
  unfold cmpR
  rw [orderW_eq, orderW_eq]
  simp only [decide_eq_true_eq, decide_eq_false_iff_not]
  unfold sgnI
  (repeat' split) <;> omega

theorem rwide_sgn (a b : Int) (ha0 : -9223372036854775808 ≤ a) (ha1 : a ≤ 9223372036854775807) (hb0 : -9223372036854775808 ≤ b) (hb1 : b ≤ 9223372036854775807) (w : World) :
    Gives Tryz.prog 130 #[.int .i64 a, .int .i64 b] w
      (.agg #[.bool (decide (a * b < 0)), .int .u64 (((a * b).natAbs : Int) / 18446744073709551616), .int .u64 (((a * b).natAbs : Int) % 18446744073709551616)]) := by
  rw [← mag_mul]; exact rwide_any a b ha0 ha1 hb0 hb1 w

end Go.Proofs.YtbcgdhldkanecaaGreat

/- The document's quotient of a wide product, and its MulDiv: what they return. Conditions: the words' ranges, a divisor that is not 0. -/
namespace Go.Proofs.YtbcgdhldkanecaaGreat
set_option linter.unusedVariables false
set_option linter.unusedSimpArgs false
open Go.RowKit

theorem divW_sgn (p c : Int) (hc : c ≠ 0) :
    divW ((p.natAbs : Int) / 18446744073709551616) ((p.natAbs : Int) % 18446744073709551616) (decide (p < 0)) c = mdE p c := by
  rw [mdE_quoS p c hc (decide (p < 0) != decide (c < 0)) (.inl rfl)]
  have hmm := Int.mul_ediv_add_emod (p.natAbs : Int) 18446744073709551616
  unfold divW
  rw [show (p.natAbs : Int) / 18446744073709551616 * 18446744073709551616 + (p.natAbs : Int) % 18446744073709551616 = p.natAbs by omega]
  split
  · rename_i h
    have h1 : (c.natAbs : Int) * 18446744073709551616 ≤ p.natAbs := by omega
    have h2 := (Int.le_ediv_iff_mul_le (show 0 < (c.natAbs : Int) by omega)).2 (show 18446744073709551616 * (c.natAbs : Int) ≤ p.natAbs by rw [Int.mul_comm]; exact h1)
    unfold quoS
    rw [if_pos (by omega)]
  · rfl

set_option maxHeartbeats 1000000 in
theorem rquotient_any (h l : Int) (b : Bool) (c : Int) (h0 : 0 ≤ h) (h1 : h < 18446744073709551616) (l0 : 0 ≤ l) (l1 : l < 18446744073709551616)
    (c0 : -9223372036854775808 ≤ c) (c1 : c ≤ 9223372036854775807) (w : World) :
    Gives Tryz.prog 131 #[.agg #[.bool b, .int .u64 h, .int .u64 l], .int .i64 c] w
      (.tuple #[.int .i64 (divW h l b c).1, .int .i64 (divW h l b c).2.1, .bool ((divW h l b c).2.2 == 0)]) := by
  by_cases hd : (c.natAbs : Int) ≤ h
  · (unfold Gives; go_enter Tryz.func131, Tryz.ntmps131)
    go_wp2_with (go_at_call 140; refine (rsize_any _ c0 c1 _).mono ?_; intro _)
    all_goals go_ret3
    all_goals refine ⟨?_, (by repeat (first | with_reducible exact Up.refl _ | with_reducible apply Up.plus | apply Up.ext | apply Up.alloc | apply Up.drew | (refine Up.setCell ?_ (by simp; try omega) _)))⟩
    all_goals simp [divW, hd]
  · have hd' : h < (c.natAbs : Int) := by omega
    clear hd
    obtain ⟨q, hq⟩ : ∃ q, (h * 18446744073709551616 + l) / c.natAbs = q := ⟨_, rfl⟩
    obtain ⟨r, hr⟩ : ∃ q, (h * 18446744073709551616 + l) % c.natAbs = q := ⟨_, rfl⟩
    have hq0 : 0 ≤ q := by rw [← hq]; exact Int.ediv_nonneg (by omega) (by omega)
    have hr0 : 0 ≤ r := by rw [← hr]; exact Int.emod_nonneg _ (by omega)
    have hq1 : q < 18446744073709551616 := by
      rw [← hq]
      apply Int.ediv_lt_of_lt_mul (by omega)
      have : (h + 1) * 18446744073709551616 ≤ (c.natAbs : Int) * 18446744073709551616 := Int.mul_le_mul_of_nonneg_right (by omega) (by omega)
      grind
    have hdiv := fun W => div64_any h l c.natAbs h0 hd' l0 l1 (by omega) W
    rw [hq, hr] at hdiv
    have hE : divW h l b c = quoS q (q + if r = 0 then 0 else 1) (b != decide (c < 0)) := by simp only [divW]; rw [if_neg (by omega), hq, hr]
    rw [hE]
    clear hE hq hr
    have HD := hide hdiv
    clear hdiv
    (unfold Gives; go_enter Tryz.func131, Tryz.ntmps131)
    go_wp2_with (first | (go_at_call 140; refine (rsize_any _ c0 c1 _).mono ?_; intro _) | (go_at_call 137; refine (HD.out _).mono ?_; intro _))
    all_goals go_ret3
    all_goals refine ⟨?_, (by repeat (first | with_reducible exact Up.refl _ | with_reducible apply Up.plus | apply Up.ext | apply Up.alloc | apply Up.drew | (refine Up.setCell ?_ (by simp; try omega) _)))⟩
    all_goals (go_light; first | (simp_all [quoS]; done) | (simp_all [quoS]; omega) | (simp_all [quoS]; repeat' split; all_goals (first | (simp_all; done) | omega | (simp_all; omega))))

/-- of a product: what the program's own division says -/
theorem rquotient_md (p c : Int) (hc : c ≠ 0) (c0 : -9223372036854775808 ≤ c) (c1 : c ≤ 9223372036854775807) (p0 : -85070591730234615865843651857942052864 ≤ p) (p1 : p ≤ 85070591730234615865843651857942052864) (w : World) :
    Gives Tryz.prog 131 #[.agg #[.bool (decide (p < 0)), .int .u64 ((p.natAbs : Int) / 18446744073709551616), .int .u64 ((p.natAbs : Int) % 18446744073709551616)], .int .i64 c] w
      (.tuple #[.int .i64 (mdE p c).1, .int .i64 (mdE p c).2.1, .bool ((mdE p c).2.2 == 0)]) := by
  rw [← divW_sgn p c hc]
  exact rquotient_any _ _ _ c (by omega) (by omega) (by omega) (by omega) c0 c1 w

theorem mdE_err (p c : Int) : (mdE p c).2.2 = 0 ∨ (mdE p c = (0, 0, 14)) := by
  unfold mdE; split
  · exact .inl rfl
  · exact .inr rfl

theorem prod_bd {a b : Int} (a0 : -9223372036854775808 ≤ a) (a1 : a ≤ 9223372036854775807) (b0 : -9223372036854775808 ≤ b) (b1 : b ≤ 9223372036854775807) :
    -85070591730234615865843651857942052864 ≤ a * b ∧ a * b ≤ 85070591730234615865843651857942052864 := by
  have := mul_bd (x := a) (y := b) (B := 9223372036854775808) (C := 9223372036854775808) (by omega) (by omega) (by omega) (by omega)
  omega

theorem rmuldiv_any (a b c : Int) (w : World) : Gives Tryz.prog 107 #[.int .i64 a, .int .i64 b, .int .i64 c] w
    (.tuple #[.int .i64 (mulDivE a b c).1, .int .i64 (mulDivE a b c).2.1, .int .i64 (mulDivE a b c).2.2]) := by
  by_cases h : fitsB a = true ∧ fitsB b = true ∧ fitsB c = true ∧ ¬ c = 0
  · obtain ⟨h1, h2, h3, h4⟩ := h
    obtain ⟨a0, a1⟩ := (fits_iff a).1 h1
    obtain ⟨b0, b1⟩ := (fits_iff b).1 h2
    obtain ⟨c0, c1⟩ := (fits_iff c).1 h3
    have hcb : (c == 0) = false := by simp [h4]
    have hp := prod_bd (a := a) (b := b) (by omega) (by omega) (by omega) (by omega)
    have HE : mulDivE a b c = mdE (a * b) c := by unfold mulDivE; rw [if_pos ⟨h1, h2, h3, h4⟩]
    rw [HE]
    clear HE
    have HP := fun W => rquotient_md (a * b) c h4 (by omega) (by omega) (by omega) (by omega) W
    have HR := fun W => rwide_sgn a b (by omega) (by omega) (by omega) (by omega) W
    have he := mdE_err (a * b) c
    clear hp
    generalize mdE (a * b) c = m at *
    generalize a * b = p at *
    obtain ⟨lo, hi, e⟩ := m
    simp only at HP he
    simp only [Prod.mk.injEq] at he
    have H1 := hide HP
    have H2 := hide HR
    clear HP HR
    simp only
    rcases he with rfl | ⟨rfl, rfl, rfl⟩
    all_goals (unfold Gives; go_enter Tryz.func107, Tryz.ntmps107)
    all_goals go_wp2_with (first | (go_at_call 129; (with_reducible refine (rfits_any _ _).mono ?_); intro _) | (go_at_call 130; (with_reducible refine (H2.out _).mono ?_); intro _) | (go_at_call 131; (with_reducible refine (H1.out _).mono ?_); intro _))
    all_goals go_ret3
    all_goals exact ⟨rfl, (by repeat (first | with_reducible exact Up.refl _ | with_reducible apply Up.plus | apply Up.ext | apply Up.alloc | apply Up.drew | (refine Up.setCell ?_ (by simp; try omega) _)))⟩
  · have HE : mulDivE a b c = (0, 0, 2) := by unfold mulDivE; rw [if_neg h]
    rw [HE]
    cases ha : fitsB a with
    | false =>
      (unfold Gives; go_enter Tryz.func107, Tryz.ntmps107)
      go_wp2_with (go_at_call 129; refine (rfits_any _ _).mono ?_; intro _)
      go_ret3
      exact ⟨rfl, (by repeat (first | with_reducible exact Up.refl _ | with_reducible apply Up.plus | apply Up.ext | apply Up.alloc | apply Up.drew | (refine Up.setCell ?_ (by simp; try omega) _)))⟩
    | true =>
      cases hb : fitsB b with
      | false =>
        (unfold Gives; go_enter Tryz.func107, Tryz.ntmps107)
        go_wp2_with (go_at_call 129; refine (rfits_any _ _).mono ?_; intro _)
        go_ret3
        exact ⟨rfl, (by repeat (first | with_reducible exact Up.refl _ | with_reducible apply Up.plus | apply Up.ext | apply Up.alloc | apply Up.drew | (refine Up.setCell ?_ (by simp; try omega) _)))⟩
      | true =>
        cases hc : fitsB c with
        | false =>
          (unfold Gives; go_enter Tryz.func107, Tryz.ntmps107)
          go_wp2_with (go_at_call 129; refine (rfits_any _ _).mono ?_; intro _)
          go_ret3
          exact ⟨rfl, (by repeat (first | with_reducible exact Up.refl _ | with_reducible apply Up.plus | apply Up.ext | apply Up.alloc | apply Up.drew | (refine Up.setCell ?_ (by simp; try omega) _)))⟩
        | true =>
          obtain rfl : c = 0 := by
            by_cases h0 : c = 0
            · exact h0
            · exact absurd ⟨ha, hb, hc, h0⟩ h
          clear h HE
          (unfold Gives; go_enter Tryz.func107, Tryz.ntmps107)
          go_wp2_with (go_at_call 129; refine (rfits_any _ _).mono ?_; intro _)
          go_ret3
          exact ⟨rfl, (by repeat (first | with_reducible exact Up.refl _ | with_reducible apply Up.plus | apply Up.ext | apply Up.alloc | apply Up.drew | (refine Up.setCell ?_ (by simp; try omega) _)))⟩
end Go.Proofs.YtbcgdhldkanecaaGreat

