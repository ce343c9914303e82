/- Plain facts: the exact pull of a small body lies in its enclosure. No program. -/
import Derived.Test.YtbcgdhldkanecaaForceM
namespace Go.Proofs.Ytbcgdhldkanecaa
open Go.RowKit

/-- whether n is at most mu d / (the root of q)^3, by squares -/
def atMostB (n mu d q : Int) : Bool :=
  if n ≤ 0 ∧ 0 ≤ d then true else if 0 < n ∧ d ≤ 0 then false else if 0 < n then decide (n * n * q * q * q ≤ mu * mu * d * d) else decide (mu * mu * d * d ≤ n * n * q * q * q)
def inP (p : Int × Int) (q : Int × Int) : Bool := (decide (p.1 ≤ p.2) && decide (q.1 ≤ p.1)) && decide (p.2 ≤ q.2)

theorem exact_low {mu d s : Int} (mu0 : 0 ≤ mu) (mu1 : mu ≤ 10000) (d0 : -30 ≤ d) (d1 : d ≤ 30) (s0 : 1 ≤ s) (s1 : s ≤ 1800) :
    ∃ n, lowT mu (d, d) (s, s) (isq s, upq s) = n ∧ (-300000 ≤ n ∧ n ≤ 300000) ∧ atMostB n mu d s = true ∧ n * n * s * s * s ≤ 1000000000000 := by
  obtain ⟨p0, p1⟩ := mul_bd (x := mu) (y := d) (B := 10000) (C := 30) (by omega) (by omega) (by omega) (by omega)
  obtain ⟨P, hP⟩ : ∃ P, mu * d = P := ⟨_, rfl⟩
  have hPP : mu * mu * d * d = P * P := by rw [← hP]; grind
  obtain ⟨a0, a1, a2⟩ := isq_spec s (by omega) (by omega)
  obtain ⟨b0, b1, b2, _⟩ := upq_spec (x := s) (by omega) (by omega)
  have i1 := isq_pos (x := s) s0 (by omega)
  obtain ⟨rl, hrl⟩ : ∃ r, isq s = r := ⟨_, rfl⟩
  obtain ⟨rh, hrh⟩ : ∃ r, upq s = r := ⟨_, rfl⟩
  rw [hrl, hrh] at b1
  rw [hrl] at a0 a1 a2 i1
  rw [hrh] at b0 b2
  have rl42 : rl ≤ 42 := by
    rcases Int.lt_or_le 42 rl with h | h
    · have := Int.mul_le_mul (show 43 ≤ rl by omega) (show 43 ≤ rl by omega) (by omega) (by omega); omega
    · exact h
  obtain ⟨N, hN⟩ : ∃ N, floQ P s = N := ⟨_, rfl⟩
  have n1 : N * s ≤ P := (flo_le (by omega) _).1 (by rw [hN]; exact Int.le_refl _)
  have n2 : P < (N + 1) * s := by
    have := mt (flo_le (p := P) (c := s) (by omega) (N + 1)).2 (by rw [hN]; omega)
    omega
  have n3 := flo_in (p := P) (c := s) (m := 300000) (by omega) (by omega) (by omega) (by omega)
  rw [hN] at n3
  have hlow : lowN mu (d, d) (s, s) = N := by
    unfold lowN
    simp only [hP, hN]
    rw [cl_id (by omega) (by omega)]
    omega
  have f1 := flo_in (p := N) (c := rl) (m := 300000) (by omega) (by omega) (by omega) (by omega)
  have f2 := flo_in (p := N) (c := rh) (m := 300000) (by omega) (by omega) (by omega) (by omega)
  obtain ⟨n, hn⟩ : ∃ n, min (floQ N rl) (floQ N rh) = n := ⟨_, rfl⟩
  have g1 : n * rl ≤ N := (flo_le (by omega) _).1 (by omega)
  have g2 : n * rh ≤ N := (flo_le (by omega) _).1 (by omega)
  have hT : lowT mu (d, d) (s, s) (isq s, upq s) = n := by
    unfold lowT
    simp only [hlow, hrl, hrh]
    rw [hn, cl_id (by omega) (by omega)]
  refine ⟨n, hT, by omega, ?_, ?_⟩
  · unfold atMostB
    rw [hPP]
    by_cases c1 : n ≤ 0 ∧ 0 ≤ d
    · rw [if_pos c1]
    · rw [if_neg c1]
      by_cases c2 : 0 < n ∧ d ≤ 0
      · exfalso
        have hp : P ≤ 0 := by rw [← hP]; exact Int.mul_nonpos_of_nonneg_of_nonpos mu0 c2.2
        have hNn : N ≤ 0 := by
          rcases Int.lt_or_le 0 N with h | h
          · have := Int.mul_le_mul (show 1 ≤ N by omega) s0 (by omega) (by omega); omega
          · exact h
        have := Int.mul_le_mul (show 1 ≤ n by omega) i1 (by omega) (by omega)
        omega
      · rw [if_neg c2]
        by_cases c3 : 0 < n
        · rw [if_pos c3, decide_eq_true_eq]
          have h1 : n * rh * s ≤ N * s := Int.mul_le_mul_of_nonneg_right g2 (by omega)
          have h0 : 0 ≤ n * rh * s := Int.mul_nonneg (Int.mul_nonneg (by omega) b0) (by omega)
          have h2 := sq_mono h0 (Int.le_trans h1 n1)
          have h3 : n * n * s * s * s ≤ n * n * s * s * (rh * rh) := Int.mul_le_mul_of_nonneg_left b2 (by
            have := mul_self_nonneg (n * s)
            have e : n * s * (n * s) = n * n * s * s := by grind
            omega)
          have e : n * n * s * s * (rh * rh) = n * rh * s * (n * rh * s) := by grind
          omega
        · rw [if_neg c3, decide_eq_true_eq]
          have h1 : n * rl * s ≤ N * s := Int.mul_le_mul_of_nonneg_right g1 (by omega)
          have hp : P ≤ 0 := by rw [← hP]; exact Int.mul_nonpos_of_nonneg_of_nonpos mu0 (by omega)
          have h2 := sq_mono (a := -P) (b := -(n * rl * s)) (by omega) (by omega)
          rw [Int.neg_mul_neg, Int.neg_mul_neg] at h2
          have h3 : n * n * s * s * (rl * rl) ≤ n * n * s * s * s := Int.mul_le_mul_of_nonneg_left a1 (by
            have := mul_self_nonneg (n * s)
            have e : n * s * (n * s) = n * n * s * s := by grind
            omega)
          have e : n * n * s * s * (rl * rl) = n * rl * s * (n * rl * s) := by grind
          omega
  · have hs4 : s ≤ 4 * (rl * rl) := by
      have := sq_mono (a := rl + 1) (b := 2 * rl) (by omega) (by omega)
      have e : 2 * rl * (2 * rl) = 4 * (rl * rl) := by grind
      omega
    have h3 : n * n * s * s * s ≤ n * n * s * s * (4 * (rl * rl)) := Int.mul_le_mul_of_nonneg_left hs4 (by
      have := mul_self_nonneg (n * s)
      have e : n * s * (n * s) = n * n * s * s := by grind
      omega)
    have e : n * n * s * s * (4 * (rl * rl)) = 4 * (n * rl * s * (n * rl * s)) := by grind
    have hb : -380000 ≤ n * rl * s ∧ n * rl * s ≤ 380000 := by
      have rh43 : rh ≤ 43 := by
        have : upq s ≤ isq s + 1 := by unfold upq; split <;> omega
        omega
      rcases Int.lt_or_le n 0 with hneg | hpos
      · have q1 : N - 43 ≤ n * rl := by
          have hcase : n = floQ N rl ∨ n = floQ N rh := by omega
          rcases hcase with hc | hc
          · have h4 := mt (flo_le (p := N) (c := rl) (by omega) (n + 1)).2 (by omega)
            have e : (n + 1) * rl = n * rl + rl := by grind
            omega
          · have h4 := mt (flo_le (p := N) (c := rh) (by omega) (n + 1)).2 (by omega)
            have e : (n + 1) * rh = n * rh + rh := by grind
            have h5 := Int.mul_le_mul_of_nonpos_left (a := n) (b := rh) (c := rl) (by omega) b1
            omega
        have q2 := Int.mul_le_mul_of_nonneg_right q1 (show 0 ≤ s by omega)
        have e1 : (N - 43) * s = N * s - 43 * s := by grind
        have e2 : (N + 1) * s = N * s + s := by grind
        have q3 : n * rl ≤ 0 := Int.mul_nonpos_of_nonpos_of_nonneg (by omega) (by omega)
        have q4 : n * rl * s ≤ 0 := Int.mul_nonpos_of_nonpos_of_nonneg q3 (by omega)
        omega
      · have q1 : 0 ≤ n * rl := Int.mul_nonneg hpos (by omega)
        have q2 : 0 ≤ n * rl * s := Int.mul_nonneg q1 (by omega)
        have q3 := Int.mul_le_mul_of_nonneg_right g1 (show 0 ≤ s by omega)
        omega
    have h5 := mul_bd (x := n * rl * s) (y := n * rl * s) (B := 380000) (C := 380000) hb.1 hb.2 hb.1 hb.2
    omega
end Go.Proofs.Ytbcgdhldkanecaa
