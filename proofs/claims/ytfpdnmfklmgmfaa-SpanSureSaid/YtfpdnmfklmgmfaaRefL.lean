/- The document's own Clear, and that it says what the program's says. No conditions. -/
import Derived.Test.YtfpdnmfklmgmfaaRefK
namespace Go.Proofs.Ytfpdnmfklmgmfaa
open Go.RowKit

/-- no segment between two of these places comes within r -/
def pairsB (l : List (Int × Int)) (r : Int) : Bool := l.all fun p => l.all fun q => !comesB p.1 p.2 q.1 q.2 r

theorem comes_zero {px py qx qy r : Int} (hc : px * qy - py * qx = 0) (hd : px * qx + py * qy ≤ 0) (hr : 0 ≤ r) : comesB px py qx qy r = true := by
  have hrr : 0 ≤ r * r := Int.mul_nonneg hr hr
  have hp : 0 ≤ px * px + py * py := by have := mul_self_nonneg px; have := mul_self_nonneg py; omega
  have hq : 0 ≤ qx * qx + qy * qy := by have := mul_self_nonneg qx; have := mul_self_nonneg qy; omega
  have e1 : px * (qx - px) + py * (qy - py) = (px * qx + py * qy) - (px * px + py * py) := by grind
  have e2 : qx * (qx - px) + qy * (qy - py) = (qx * qx + qy * qy) - (px * qx + py * qy) := by grind
  unfold comesB
  rw [e1, e2]
  by_cases h1 : 0 ≤ px * qx + py * qy - (px * px + py * py)
  · rw [if_pos h1]
    simp only [decide_eq_true_eq]; unfold sqV; omega
  · rw [if_neg h1]
    by_cases h2 : qx * qx + qy * qy - (px * qx + py * qy) ≤ 0
    · rw [if_pos h2]
      simp only [decide_eq_true_eq]; unfold sqV; omega
    · rw [if_neg h2, hc]
      simp only [decide_eq_true_eq]
      have hL : 0 ≤ sqV (qx - px) (qy - py) := by unfold sqV; have := mul_self_nonneg (qx - px); have := mul_self_nonneg (qy - py); omega
      have := Int.mul_nonneg hrr hL
      omega

theorem sgnI_pos (x : Int) : 0 < sgnI x ↔ 0 < x := by unfold sgnI; split <;> (try split) <;> omega
theorem sgnI_zero (x : Int) : sgnI x = 0 ↔ x = 0 := by unfold sgnI; split <;> (try split) <;> omega
theorem sgnI_neg0 (x : Int) : sgnI x < 0 ↔ x < 0 := by unfold sgnI; split <;> (try split) <;> omega

theorem side_first {l : List (Int × Int)} {r : Int} (hr : 0 ≤ r) (h : pairsB l r = true) {p q : Int × Int} (hp : p ∈ l) (hq : q ∈ l) : sideB p q = !decide (crossV p.1 p.2 q.1 q.2 < 0) := by
  have hc : comesB p.1 p.2 q.1 q.2 r = false := by
    unfold pairsB at h
    rw [List.all_eq_true] at h
    have := h p hp
    rw [List.all_eq_true] at this
    simpa using this q hq
  rw [crossV_eq]
  unfold sideB
  have e1 : decide (0 < sgnI (p.1 * q.2 - p.2 * q.1)) = decide (0 < p.1 * q.2 - p.2 * q.1) := decide_eq_decide.2 (sgnI_pos _)
  have e2 : decide (sgnI (p.1 * q.2 - p.2 * q.1) = 0) = decide (p.1 * q.2 - p.2 * q.1 = 0) := decide_eq_decide.2 (sgnI_zero _)
  have e3 : decide (0 < sgnI (p.1 * q.1 + p.2 * q.2)) = decide (0 < p.1 * q.1 + p.2 * q.2) := decide_eq_decide.2 (sgnI_pos _)
  have e4 : decide (sgnI (p.1 * q.2 - p.2 * q.1) < 0) = decide (p.1 * q.2 - p.2 * q.1 < 0) := decide_eq_decide.2 (sgnI_neg0 _)
  rw [e1, e2, e3, e4]
  by_cases h0 : p.1 * q.2 - p.2 * q.1 = 0
  · have hd : 0 < p.1 * q.1 + p.2 * q.2 := by
      by_cases hd : 0 < p.1 * q.1 + p.2 * q.2
      · exact hd
      · rw [comes_zero h0 (by omega) hr] at hc; cases hc
    simp [h0, hd]
  · by_cases h1 : 0 < p.1 * q.2 - p.2 * q.1
    · rw [decide_eq_true h1, decide_eq_false (show ¬ p.1 * q.2 - p.2 * q.1 < 0 by omega)]; rfl
    · rw [decide_eq_false h1, decide_eq_false h0, decide_eq_true (show p.1 * q.2 - p.2 * q.1 < 0 by omega)]; rfl

theorem clearB_eq (a b : Ar) (r : Int) (hr : rightB a b r = true) : clearB a b r = (outsideB (cornersL [a, b]) && pairsB (cornersL [a, b]) r) := by
  obtain ⟨_, _, r0, _⟩ := right_ok hr
  unfold clearB
  rw [hr]
  have hP : apartB a b r = pairsB (cornersL [a, b]) r := rfl
  rw [hP]
  cases h : pairsB (cornersL [a, b]) r
  · simp
  · have hO : outsideB (cornersL [a, b]) = !amidB a b := by
      unfold outsideB amidB
      rw [List.all_eq_not_any_not, Bool.not_not]
      rw [Bool.eq_iff_iff, List.any_eq_true, List.any_eq_true]
      have key : ∀ p ∈ cornersL [a, b], ((cornersL [a, b]).all fun q => sideB p q) = firstB p a b := fun p hp => by
        unfold firstB
        rw [Bool.eq_iff_iff, List.all_eq_true, List.all_eq_true]
        constructor
        · intro hq q hq2; rw [← side_first r0 h hp hq2]; exact hq q hq2
        · intro hq q hq2; rw [side_first r0 h hp hq2]; exact hq q hq2
      constructor
      · rintro ⟨p, hp, hp2⟩; exact ⟨p, hp, by rw [key p hp] at hp2; simp [hp2]⟩
      · rintro ⟨p, hp, hp2⟩; exact ⟨p, hp, by rw [key p hp]; simpa using hp2⟩
    rw [hO]; simp
end Go.Proofs.Ytfpdnmfklmgmfaa
