/- math/bits.Div64 whole: the quotient and the rest of two words by one. Conditions: the divisor is above the upper word. -/
import Derived.Test.YtbcgdhldkanecaaDivW
namespace Go.Proofs.Ytbcgdhldkanecaa
open Go.RowKit

theorem wrapU (x : Int) : IntKind.u64.wrap x = x % 18446744073709551616 := IntKind.wrap_u64 x

/-- what the walk reckons for a rest, word by word, is the rest -/
theorem rest_wrap (u d q y : Int) (h0 : 0 ≤ (u * 4294967296 + d) - q * y) (h1 : (u * 4294967296 + d) - q * y < 18446744073709551616) :
    IntKind.u64.wrap (IntKind.u64.wrap (IntKind.u64.wrap (u * 4294967296) + d) - IntKind.u64.wrap (q * y)) = (u * 4294967296 + d) - q * y := by
  simp only [wrapU]
  generalize u * 4294967296 = x at *
  generalize q * y = z at *
  omega

theorem est_first (U d a b : Int) (ha : 2147483648 ≤ a) (hb : 0 ≤ b) (hb1 : b < 4294967296) (hU0 : 0 ≤ U) (hU : U < 4294967296 * a + b) (hd0 : 0 ≤ d) (hd : d < 4294967296) :
    Est U d a b ((U * 4294967296 + d) / (4294967296 * a + b)) (U / a) (U % a) := by
  refine ⟨?_, rfl, Dv.est_ge U d a b (by omega) hb hd0 hU0 hd, ?_, Dv.est_le U a b ha hU hb1, Int.emod_nonneg _ (by omega)⟩
  · have := Int.mul_ediv_add_emod U a; grind
  · exact (Dv.true_le U d (4294967296 * a + b) (by omega) hU hU0 hd0 hd).1

theorem div64_big (hi lo y : Int) (h0 : 0 < hi) (h1 : hi < y) (l0 : 0 ≤ lo) (l1 : lo < 18446744073709551616) (y1 : y < 18446744073709551616) (w : World) :
    Gives Try.prog 105 #[.int .u64 hi, .int .u64 lo, .int .u64 y] w (.tuple #[.int .u64 ((hi * 18446744073709551616 + lo) / y), .int .u64 ((hi * 18446744073709551616 + lo) % y)]) := by
  obtain ⟨s, hs, hs1, hY0, hY1⟩ := scale_of y (by omega) y1
  obtain ⟨t, ht⟩ : ∃ t : Nat, t = 64 - s := ⟨_, rfl⟩
  obtain ⟨p, hp⟩ : ∃ p : Int, 2 ^ s = p := ⟨_, rfl⟩
  obtain ⟨r, hr⟩ : ∃ r : Int, 2 ^ t = r := ⟨_, rfl⟩
  rw [hp] at hY0 hY1
  have hp0 : 0 < p := by rw [← hp]; exact Int.pow_pos (by omega)
  have hr0 : 0 < r := by rw [← hr]; exact Int.pow_pos (by omega)
  have hpr : p * r = 18446744073709551616 := by
    rw [← hp, ← hr, ← Int.pow_add, ht, show s + (64 - s) = 64 by omega]; rfl
  have hsc := Dv.scaled hi lo p r hp0 hpr
  have hup := Dv.upper_lt hi lo y p r h1 hp0 hr0 hpr l0 l1
  have hun := Dv.unscaled (hi * 18446744073709551616 + lo) y p hp0
  have hlr0 : 0 ≤ lo / r := Int.ediv_nonneg l0 (by omega)
  have hlr1 : lo / r < p := Int.ediv_lt_of_lt_mul hr0 (by rw [hpr]; exact l1)
  have hhp0 : 0 ≤ hi * p := Int.mul_nonneg (by omega) (by omega)
  obtain ⟨U, hU⟩ : ∃ U, hi * p + lo / r = U := ⟨_, rfl⟩
  obtain ⟨L, hL⟩ : ∃ L, lo * p % 18446744073709551616 = L := ⟨_, rfl⟩
  obtain ⟨Y, hY⟩ : ∃ Y, y * p = Y := ⟨_, rfl⟩
  have eU := or_add hi (lo / r) p r s (by omega) hlr0 hp.symm hlr1 (by omega)
  have hL0 : 0 ≤ L ∧ L < 18446744073709551616 := by omega
  rw [hY] at hY0 hY1 hup hun
  rw [hU] at hup hsc eU
  rw [hL] at hsc
  obtain ⟨a, ha⟩ : ∃ a, Y / 4294967296 = a := ⟨_, rfl⟩
  obtain ⟨b, hb⟩ : ∃ b, Y % 4294967296 = b := ⟨_, rfl⟩
  obtain ⟨d1, hd1⟩ : ∃ d, L / 4294967296 = d := ⟨_, rfl⟩
  obtain ⟨d0, hd0⟩ : ∃ d, L % 4294967296 = d := ⟨_, rfl⟩
  have hYab : Y = 4294967296 * a + b := by omega
  have hU0 : 0 ≤ U := by omega
  have ba : 2147483648 ≤ a ∧ a < 4294967296 ∧ 0 ≤ b ∧ b < 4294967296 := by omega
  have bd : 0 ≤ d1 ∧ d1 < 4294967296 ∧ 0 ≤ d0 ∧ d0 < 4294967296 := by omega
  have htwo := Dv.two_digits ((hi * 18446744073709551616 + lo) * p) Y U d1 d0 (by omega) (by rw [hsc]; omega)
  have t1 := Dv.true_le U d1 Y (by omega) hup hU0 bd.1 bd.2.1
  obtain ⟨Q1, hQ1⟩ : ∃ q, (U * 4294967296 + d1) / Y = q := ⟨_, rfl⟩
  obtain ⟨R1, hR1⟩ : ∃ q, (U * 4294967296 + d1) % Y = q := ⟨_, rfl⟩
  have bR1 : 0 ≤ R1 ∧ R1 < Y := by rw [← hR1]; exact ⟨Int.emod_nonneg _ (by omega), Int.emod_lt_of_pos _ (by omega)⟩
  have eR1 := Dv.rem_eq (U * 4294967296 + d1) Y Q1 hQ1.symm
  rw [hQ1, hR1] at htwo
  rw [hQ1] at t1
  rw [hR1] at eR1
  have t0 := Dv.true_le R1 d0 Y (by omega) bR1.2 bR1.1 bd.2.2.1 bd.2.2.2
  obtain ⟨Q0, hQ0⟩ : ∃ q, (R1 * 4294967296 + d0) / Y = q := ⟨_, rfl⟩
  obtain ⟨R0, hR0⟩ : ∃ q, (R1 * 4294967296 + d0) % Y = q := ⟨_, rfl⟩
  have bR0 : 0 ≤ R0 ∧ R0 < Y := by rw [← hR0]; exact ⟨Int.emod_nonneg _ (by omega), Int.emod_lt_of_pos _ (by omega)⟩
  have eR0 := Dv.rem_eq (R1 * 4294967296 + d0) Y Q0 hQ0.symm
  rw [hQ0, hR0] at htwo
  rw [hQ0] at t0
  rw [hR0] at eR0
  have k1 := est_first U d1 a b ba.1 ba.2.2.1 ba.2.2.2 hU0 (by omega) bd.1 bd.2.1
  have k0 := est_first R1 d0 a b ba.1 ba.2.2.1 ba.2.2.2 bR1.1 (by omega) bd.2.2.1 bd.2.2.2
  rw [← hYab] at k1 k0
  rw [hQ1] at k1
  rw [hQ0] at k0
  have w1 := rest_wrap U d1 Q1 Y (by omega) (by omega)
  have w0 := rest_wrap R1 d0 Q0 Y (by omega) (by omega)
  rw [eR1] at w1
  rw [eR0] at w0
  have m1 : IntKind.u64.wrap (U - IntKind.u64.wrap (U / a * a)) = U % a := by
    have h := Int.mul_ediv_add_emod U a
    have h2 := Int.emod_nonneg U (show a ≠ 0 by omega)
    have h3 := Int.emod_lt_of_pos U (show 0 < a by omega)
    rw [Int.mul_comm] at h
    simp only [wrapU]
    generalize U / a * a = z at *
    omega
  have m0 : IntKind.u64.wrap (R1 - IntKind.u64.wrap (R1 / a * a)) = R1 % a := by
    have h := Int.mul_ediv_add_emod R1 a
    have h2 := Int.emod_nonneg R1 (show a ≠ 0 by omega)
    have h3 := Int.emod_lt_of_pos R1 (show 0 < a by omega)
    rw [Int.mul_comm] at h
    simp only [wrapU]
    generalize R1 / a * a = z at *
    omega
  have g := div64_walk hi lo y p r U L Y a b d1 d0 Q1 R1 Q0 R0 _ _ _ _ _ _ _ _ _ _ s t h0 h1 l0 l1 y1 w hs hs1 (by omega) (by omega) hp hr
    (by rw [wrapU, hY]; omega) (by rw [wrapU]; omega) eU (by rw [wrapU, hL]) ha (by rw [and_mask Y (by omega) hY1]; exact hb) hd1 (by rw [and_mask L hL0.1 hL0.2]; exact hd0)
    ba.1 ba.2.1 ba.2.2.1 ba.2.2.2 hU0 (by omega) bd.1 bd.2.1 bd.2.2.1 bd.2.2.2 bR1.1 (by omega) t1.1 t1.2 t0.1 t0.2 rfl m1 rfl rfl rfl w1 rfl m0 rfl rfl rfl w0
    k1 k0 (by have := Int.emod_lt_of_pos U (show 0 < a by omega); omega) (by have := Int.emod_lt_of_pos R1 (show 0 < a by omega); omega)
  rw [htwo.1, htwo.2] at hun
  rw [hun.1, hun.2] at g
  exact g

theorem div64_any (hi lo y : Int) (h0 : 0 ≤ hi) (h1 : hi < y) (l0 : 0 ≤ lo) (l1 : lo < 18446744073709551616) (y1 : y < 18446744073709551616) (w : World) :
    Gives Try.prog 105 #[.int .u64 hi, .int .u64 lo, .int .u64 y] w (.tuple #[.int .u64 ((hi * 18446744073709551616 + lo) / y), .int .u64 ((hi * 18446744073709551616 + lo) % y)]) := by
  by_cases hz : hi = 0
  · subst hz
    have := div64_small lo y h1 l0 l1 y1 w
    rwa [show (0 : Int) * 18446744073709551616 + lo = lo by omega]
  · exact div64_big hi lo y (by omega) h1 l0 l1 y1 w
end Go.Proofs.Ytbcgdhldkanecaa
