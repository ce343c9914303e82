/- The document's quotient of a wide product, and its MulDiv: what they return. Conditions: the words' ranges, a divisor that is not 0. -/
import Derived.Test.YtfpdnmfklmgmfaaRefS
import Derived.Test.YtfpdnmfklmgmfaaSigns
namespace Go.Proofs.Ytfpdnmfklmgmfaa
open Go.RowKit

theorem divW_sgn (p c : Int) (hc : c ≠ 0) :
    divW ((p.natAbs : Int) / 18446744073709551616) ((p.natAbs : Int) % 18446744073709551616) (decide (p < 0)) c = mdE p c := by
  rw [mdE_quoS p c hc (decide (p < 0) != decide (c < 0)) (.inl rfl)]
  have hmm := Int.mul_ediv_add_emod (p.natAbs : Int) 18446744073709551616
  unfold divW
  rw [show (p.natAbs : Int) / 18446744073709551616 * 18446744073709551616 + (p.natAbs : Int) % 18446744073709551616 = p.natAbs by omega]
  split
  · rename_i h
    have h1 : (c.natAbs : Int) * 18446744073709551616 ≤ p.natAbs := by omega
    have h2 := (Int.le_ediv_iff_mul_le (show 0 < (c.natAbs : Int) by omega)).2 (show 18446744073709551616 * (c.natAbs : Int) ≤ p.natAbs by rw [Int.mul_comm]; exact h1)
    unfold quoS
    rw [if_pos (by omega)]
  · rfl

set_option maxHeartbeats 1000000 in
theorem rquotient_any (h l : Int) (b : Bool) (c : Int) (h0 : 0 ≤ h) (h1 : h < 18446744073709551616) (l0 : 0 ≤ l) (l1 : l < 18446744073709551616)
    (c0 : -9223372036854775808 ≤ c) (c1 : c ≤ 9223372036854775807) (w : World) :
    Gives Try.prog 94 #[.agg #[.bool b, .int .u64 h, .int .u64 l], .int .i64 c] w
      (.tuple #[.int .i64 (divW h l b c).1, .int .i64 (divW h l b c).2.1, .bool ((divW h l b c).2.2 == 0)]) := by
  by_cases hd : (c.natAbs : Int) ≤ h
  · (unfold Gives; go_enter Try.func94, Try.ntmps94)
    go_wp2_with (go_at_call 120; refine (rsize_any _ c0 c1 _).mono ?_; intro _)
    all_goals go_ret3
    all_goals refine ⟨?_, (by repeat (first | with_reducible exact Up.refl _ | apply Up.ext | apply Up.alloc | apply Up.drew | (refine Up.setCell ?_ (by simp; try omega) _)))⟩
    all_goals simp [divW, hd]
  · have hd' : h < (c.natAbs : Int) := by omega
    clear hd
    obtain ⟨q, hq⟩ : ∃ q, (h * 18446744073709551616 + l) / c.natAbs = q := ⟨_, rfl⟩
    obtain ⟨r, hr⟩ : ∃ q, (h * 18446744073709551616 + l) % c.natAbs = q := ⟨_, rfl⟩
    have hq0 : 0 ≤ q := by rw [← hq]; exact Int.ediv_nonneg (by omega) (by omega)
    have hr0 : 0 ≤ r := by rw [← hr]; exact Int.emod_nonneg _ (by omega)
    have hq1 : q < 18446744073709551616 := by
      rw [← hq]
      apply Int.ediv_lt_of_lt_mul (by omega)
      have : (h + 1) * 18446744073709551616 ≤ (c.natAbs : Int) * 18446744073709551616 := Int.mul_le_mul_of_nonneg_right (by omega) (by omega)
      grind
    have hdiv := fun W => div64_any h l c.natAbs h0 hd' l0 l1 (by omega) W
    rw [hq, hr] at hdiv
    have hE : divW h l b c = quoS q (q + if r = 0 then 0 else 1) (b != decide (c < 0)) := by simp only [divW]; rw [if_neg (by omega), hq, hr]
    rw [hE]
    clear hE hq hr
    have HD := hide hdiv
    clear hdiv
    (unfold Gives; go_enter Try.func94, Try.ntmps94)
    go_wp2_with (first | (go_at_call 120; refine (rsize_any _ c0 c1 _).mono ?_; intro _) | (go_at_call 122; refine (HD.out _).mono ?_; intro _))
    all_goals go_ret3
    all_goals refine ⟨?_, (by repeat (first | with_reducible exact Up.refl _ | apply Up.ext | apply Up.alloc | apply Up.drew | (refine Up.setCell ?_ (by simp; try omega) _)))⟩
    all_goals (go_light; first | (simp_all [quoS]; done) | (simp_all [quoS]; omega) | (simp_all [quoS]; repeat' split; all_goals (first | (simp_all; done) | omega | (simp_all; omega))))

/-- of a product: what the program's own division says -/
theorem rquotient_md (p c : Int) (hc : c ≠ 0) (c0 : -9223372036854775808 ≤ c) (c1 : c ≤ 9223372036854775807) (p0 : -85070591730234615865843651857942052864 ≤ p) (p1 : p ≤ 85070591730234615865843651857942052864) (w : World) :
    Gives Try.prog 94 #[.agg #[.bool (decide (p < 0)), .int .u64 ((p.natAbs : Int) / 18446744073709551616), .int .u64 ((p.natAbs : Int) % 18446744073709551616)], .int .i64 c] w
      (.tuple #[.int .i64 (mdE p c).1, .int .i64 (mdE p c).2.1, .bool ((mdE p c).2.2 == 0)]) := by
  rw [← divW_sgn p c hc]
  exact rquotient_any _ _ _ c (by omega) (by omega) (by omega) (by omega) c0 c1 w

theorem mdE_err (p c : Int) : (mdE p c).2.2 = 0 ∨ (mdE p c = (0, 0, 14)) := by
  unfold mdE; split
  · exact .inl rfl
  · exact .inr rfl

theorem prod_bd {a b : Int} (a0 : -9223372036854775808 ≤ a) (a1 : a ≤ 9223372036854775807) (b0 : -9223372036854775808 ≤ b) (b1 : b ≤ 9223372036854775807) :
    -85070591730234615865843651857942052864 ≤ a * b ∧ a * b ≤ 85070591730234615865843651857942052864 := by
  have := mul_bd (x := a) (y := b) (B := 9223372036854775808) (C := 9223372036854775808) (by omega) (by omega) (by omega) (by omega)
  omega

theorem rmuldiv_any (a b c : Int) (w : World) : Gives Try.prog 33 #[.int .i64 a, .int .i64 b, .int .i64 c] w
    (.tuple #[.int .i64 (mulDivE a b c).1, .int .i64 (mulDivE a b c).2.1, .int .i64 (mulDivE a b c).2.2]) := by
  by_cases h : fitsB a = true ∧ fitsB b = true ∧ fitsB c = true ∧ ¬ c = 0
  · obtain ⟨h1, h2, h3, h4⟩ := h
    obtain ⟨a0, a1⟩ := (fits_iff a).1 h1
    obtain ⟨b0, b1⟩ := (fits_iff b).1 h2
    obtain ⟨c0, c1⟩ := (fits_iff c).1 h3
    have hcb : (c == 0) = false := by simp [h4]
    have hp := prod_bd (a := a) (b := b) (by omega) (by omega) (by omega) (by omega)
    have HE : mulDivE a b c = mdE (a * b) c := by unfold mulDivE; rw [if_pos ⟨h1, h2, h3, h4⟩]
    rw [HE]
    clear HE
    have HP := fun W => rquotient_md (a * b) c h4 (by omega) (by omega) (by omega) (by omega) W
    have HR := fun W => rwide_sgn a b (by omega) (by omega) (by omega) (by omega) W
    have he := mdE_err (a * b) c
    clear hp
    generalize mdE (a * b) c = m at *
    generalize a * b = p at *
    obtain ⟨lo, hi, e⟩ := m
    simp only at HP he
    simp only [Prod.mk.injEq] at he
    have H1 := hide HP
    have H2 := hide HR
    clear HP HR
    simp only
    rcases he with rfl | ⟨rfl, rfl, rfl⟩
    all_goals (unfold Gives; go_enter Try.func33, Try.ntmps33)
    all_goals go_wp2_with (first | (go_at_call 93; (with_reducible refine (rfits_any _ _).mono ?_); intro _) | (go_at_call 84; (with_reducible refine (H2.out _).mono ?_); intro _) | (go_at_call 94; (with_reducible refine (H1.out _).mono ?_); intro _))
    all_goals go_ret3
    all_goals exact ⟨rfl, (by repeat (first | with_reducible exact Up.refl _ | apply Up.ext | apply Up.alloc | apply Up.drew | (refine Up.setCell ?_ (by simp; try omega) _)))⟩
  · have HE : mulDivE a b c = (0, 0, 2) := by unfold mulDivE; rw [if_neg h]
    rw [HE]
    cases ha : fitsB a with
    | false =>
      (unfold Gives; go_enter Try.func33, Try.ntmps33)
      go_wp2_with (go_at_call 93; refine (rfits_any _ _).mono ?_; intro _)
      go_ret3
      exact ⟨rfl, (by repeat (first | with_reducible exact Up.refl _ | apply Up.ext | apply Up.alloc | apply Up.drew | (refine Up.setCell ?_ (by simp; try omega) _)))⟩
    | true =>
      cases hb : fitsB b with
      | false =>
        (unfold Gives; go_enter Try.func33, Try.ntmps33)
        go_wp2_with (go_at_call 93; refine (rfits_any _ _).mono ?_; intro _)
        go_ret3
        exact ⟨rfl, (by repeat (first | with_reducible exact Up.refl _ | apply Up.ext | apply Up.alloc | apply Up.drew | (refine Up.setCell ?_ (by simp; try omega) _)))⟩
      | true =>
        cases hc : fitsB c with
        | false =>
          (unfold Gives; go_enter Try.func33, Try.ntmps33)
          go_wp2_with (go_at_call 93; refine (rfits_any _ _).mono ?_; intro _)
          go_ret3
          exact ⟨rfl, (by repeat (first | with_reducible exact Up.refl _ | apply Up.ext | apply Up.alloc | apply Up.drew | (refine Up.setCell ?_ (by simp; try omega) _)))⟩
        | true =>
          obtain rfl : c = 0 := by
            by_cases h0 : c = 0
            · exact h0
            · exact absurd ⟨ha, hb, hc, h0⟩ h
          clear h HE
          (unfold Gives; go_enter Try.func33, Try.ntmps33)
          go_wp2_with (go_at_call 93; refine (rfits_any _ _).mono ?_; intro _)
          go_ret3
          exact ⟨rfl, (by repeat (first | with_reducible exact Up.refl _ | apply Up.ext | apply Up.alloc | apply Up.drew | (refine Up.setCell ?_ (by simp; try omega) _)))⟩
end Go.Proofs.Ytfpdnmfklmgmfaa
