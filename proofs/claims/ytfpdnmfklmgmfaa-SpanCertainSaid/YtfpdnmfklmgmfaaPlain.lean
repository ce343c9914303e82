/- Plain facts about what comes within r of the origin; least numbers. No program. -/
import Derived.Test.YtfpdnmfklmgmfaaSearch
namespace Go.Proofs.Ytfpdnmfklmgmfaa
open Go.RowKit

theorem comes_mono {px py qx qy r s : Int} (h0 : 0 ≤ r) (hrs : r ≤ s) (h : comesB px py qx qy r = true) : comesB px py qx qy s = true := by
  have h2 : r * r ≤ s * s := Int.mul_le_mul hrs hrs h0 (by omega)
  unfold comesB at h ⊢
  split
  · rename_i c1; rw [if_pos c1] at h; simp only [decide_eq_true_eq] at h ⊢; omega
  · rename_i c1
    rw [if_neg c1] at h
    split
    · rename_i c2; rw [if_pos c2] at h; simp only [decide_eq_true_eq] at h ⊢; omega
    · rename_i c2
      rw [if_neg c2] at h
      simp only [decide_eq_true_eq] at h ⊢
      have hL : 0 ≤ sqV (qx - px) (qy - py) := by unfold sqV; have := mul_self_nonneg (qx - px); have := mul_self_nonneg (qy - py); omega
      exact Int.le_trans h (Int.mul_le_mul_of_nonneg_right h2 hL)

theorem cauchy (a b c d : Int) : (a * d - b * c) * (a * d - b * c) + (a * c + b * d) * (a * c + b * d) = (a * a + b * b) * (c * c + d * d) := by grind

/-- if an end is near, the segment comes near -/
theorem comes_p {px py qx qy r : Int} (h : sqV px py ≤ r * r) : comesB px py qx qy r = true := by
  unfold comesB
  split
  · simpa using h
  · rename_i c1
    obtain ⟨dx, hdx⟩ : ∃ dx, qx - px = dx := ⟨_, rfl⟩
    obtain ⟨dy, hdy⟩ : ∃ dy, qy - py = dy := ⟨_, rfl⟩
    obtain rfl : qx = px + dx := by omega
    obtain rfl : qy = py + dy := by omega
    rw [hdx, hdy] at *
    have hd := mul_self_nonneg dx
    have hd2 := mul_self_nonneg dy
    split
    · rename_i c2
      have e : sqV px py = sqV (px + dx) (py + dy) - 2 * ((px + dx) * dx + (py + dy) * dy) + (dx * dx + dy * dy) := by unfold sqV; grind
      simp only [decide_eq_true_eq]; omega
    · rename_i c2
      simp only [decide_eq_true_eq]
      have e : px * (py + dy) - py * (px + dx) = px * dy - py * dx := by grind
      rw [e]
      have hc := cauchy px py dx dy
      have hs := mul_self_nonneg (px * dx + py * dy)
      have hm : (px * px + py * py) * (dx * dx + dy * dy) ≤ r * r * sqV dx dy := Int.mul_le_mul_of_nonneg_right h (by omega)
      omega

/-- the order of the ends does not matter -/
theorem comes_swap (px py qx qy r : Int) : comesB qx qy px py r = comesB px py qx qy r := by
  obtain ⟨dx, hdx⟩ : ∃ dx, qx - px = dx := ⟨_, rfl⟩
  obtain ⟨dy, hdy⟩ : ∃ dy, qy - py = dy := ⟨_, rfl⟩
  obtain rfl : qx = px + dx := by omega
  obtain rfl : qy = py + dy := by omega
  unfold comesB
  obtain ⟨L, hL⟩ : ∃ L, dx * dx + dy * dy = L := ⟨_, rfl⟩
  obtain ⟨m, hm⟩ : ∃ m, px * dx + py * dy = m := ⟨_, rfl⟩
  have hL0 : 0 ≤ L := by have := mul_self_nonneg dx; have := mul_self_nonneg dy; omega
  have e1 : (px + dx) * (px - (px + dx)) + (py + dy) * (py - (py + dy)) = -(m + L) := by rw [← hm, ← hL]; grind
  have e2 : px * (px - (px + dx)) + py * (py - (py + dy)) = -m := by rw [← hm]; grind
  have e3 : px * (px + dx - px) + py * (py + dy - py) = m := by rw [← hm]; grind
  have e4 : (px + dx) * (px + dx - px) + (py + dy) * (py + dy - py) = m + L := by rw [← hm, ← hL]; grind
  have e5 : sqV (px - (px + dx)) (py - (py + dy)) = sqV (px + dx - px) (py + dy - py) := by unfold sqV; grind
  have e6 : ((px + dx) * py - (py + dy) * px) * ((px + dx) * py - (py + dy) * px) = (px * (py + dy) - py * (px + dx)) * (px * (py + dy) - py * (px + dx)) := by grind
  rw [e1, e2, e3, e4, e5, e6]
  by_cases h1 : 0 ≤ m
  · by_cases h2 : m + L = 0
    · have hm0 : m = 0 := by omega
      have hL1 : L = 0 := by omega
      have hx : dx * dx = 0 := by have := mul_self_nonneg dx; have := mul_self_nonneg dy; omega
      have hy : dy * dy = 0 := by have := mul_self_nonneg dx; have := mul_self_nonneg dy; omega
      have hx0 : dx = 0 := by rcases Int.mul_eq_zero.1 hx with h | h <;> exact h
      have hy0 : dy = 0 := by rcases Int.mul_eq_zero.1 hy with h | h <;> exact h
      rw [if_pos h1, if_pos (by omega), hx0, hy0, Int.add_zero, Int.add_zero]
    · rw [if_pos h1, if_neg (by omega), if_pos (by omega)]
  · by_cases h2 : m + L ≤ 0
    · rw [if_neg h1, if_pos h2, if_pos (by omega)]
    · rw [if_neg h1, if_neg h2, if_neg (by omega), if_neg (by omega)]

theorem comes_q {px py qx qy r : Int} (h : sqV qx qy ≤ r * r) : comesB px py qx qy r = true := by
  rw [← comes_swap]; exact comes_p h

/-- the least number at which F holds -/
theorem least (F : Int → Bool) (n : Nat) : ∃ k : Nat, k ≤ n ∧ (∀ x : Nat, x < k → F x = false) ∧ (k < n → F k = true) := by
  induction n with
  | zero => exact ⟨0, by omega, by omega, by omega⟩
  | succ n ih =>
    obtain ⟨k, h1, h2, h3⟩ := ih
    by_cases hk : k < n
    · exact ⟨k, by omega, h2, fun _ => h3 hk⟩
    · have hkn : k = n := by omega
      subst hkn
      by_cases hF : F (k : Int) = true
      · exact ⟨k, by omega, h2, fun _ => hF⟩
      · refine ⟨k + 1, by omega, fun x hx => ?_, by omega⟩
        by_cases hxk : x = k
        · subst hxk; exact Bool.eq_false_iff.2 hF
        · exact h2 x (by omega)

/-- what missV is: below it the segment does not come within, from it on it does -/
theorem bis_comes (px py qx qy : Int) : let T := bis (comesB px py qx qy) 0 536870912
    T ≤ 536870912 ∧ (∀ x : Nat, x < T → comesB px py qx qy x = false) ∧ (T < 536870912 → ∀ x : Int, (T : Int) ≤ x → comesB px py qx qy x = true) := by
  obtain ⟨k, h1, h2, h3⟩ := least (comesB px py qx qy) 536870912
  have hmono : k < 536870912 → ∀ x : Int, (k : Int) ≤ x → comesB px py qx qy x = true := fun hk x hx => comes_mono (by omega) hx (h3 hk)
  have e := bis_eq (comesB px py qx qy) k 536870912 0 536870912 (by omega) (by omega) h1 (fun x _ hx => h2 x hx) (fun x hx hx2 => hmono (by omega) x (by omega))
  simp only [e]
  exact ⟨h1, h2, hmono⟩

theorem near_all {px py : Int} (p0 : -268435456 ≤ px) (p1 : px ≤ 268435456) (p2 : -268435456 ≤ py) (p3 : py ≤ 268435456) : sqV px py ≤ 536870911 * 536870911 := by
  have h1 := mul_bd (x := px) (y := px) p0 p1 p0 p1
  have h2 := mul_bd (x := py) (y := py) p2 p3 p2 p3
  unfold sqV; omega
end Go.Proofs.Ytfpdnmfklmgmfaa
