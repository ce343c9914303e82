/- Segments: how near they come to the origin. Numbers within 2^28. -/
import Derived.Test.YtfpdnmfklmgmfaaPlaneA
namespace Go.Proofs.Ytfpdnmfklmgmfaa
open Go.RowKit

theorem far_iff (n : Int) : farB n = true ↔ -268435456 ≤ n ∧ n ≤ 268435456 := by simp [farB, withinB]
theorem farV_iff (p : Int × Int) : farV p = true ↔ (-268435456 ≤ p.1 ∧ p.1 ≤ 268435456) ∧ (-268435456 ≤ p.2 ∧ p.2 ≤ 268435456) := by simp [farV, far_iff]

theorem mul_self_nonneg (x : Int) : 0 ≤ x * x := by
  rcases Int.le_total 0 x with h | h
  · exact Int.mul_nonneg h h
  · exact Int.mul_nonneg_of_nonpos_of_nonpos h h
def sqV (x y : Int) : Int := x * x + y * y
theorem mul_bd {x y B C : Int} (x0 : -B ≤ x) (x1 : x ≤ B) (y0 : -C ≤ y) (y1 : y ≤ C) : -(B * C) ≤ x * y ∧ x * y ≤ B * C := by
  constructor
  · rcases Int.le_total 0 x with h | h
    · have h1 := Int.mul_le_mul_of_nonneg_left y0 h
      have h2 := Int.mul_le_mul_of_nonneg_right x1 (show 0 ≤ C by omega)
      rw [Int.mul_neg] at h1; omega
    · have h1 := Int.mul_le_mul_of_nonpos_left h y1
      have h2 := Int.mul_le_mul_of_nonneg_right x0 (show 0 ≤ C by omega)
      rw [Int.neg_mul] at h2; omega
  · rcases Int.le_total 0 x with h | h
    · have h1 := Int.mul_le_mul_of_nonneg_left y1 h
      have h2 := Int.mul_le_mul_of_nonneg_right x1 (show 0 ≤ C by omega)
      omega
    · have h1 := Int.mul_le_mul_of_nonpos_left h y0
      have h2 := Int.mul_le_mul_of_nonneg_right x0 (show 0 ≤ C by omega)
      rw [Int.neg_mul] at h2; rw [Int.mul_neg] at h1; omega

theorem square_vec (x y : Int) (h0 : -1073741824 ≤ x) (h1 : x ≤ 1073741824) (h2 : -1073741824 ≤ y) (h3 : y ≤ 1073741824) (w : World) :
    Gives Try.prog 73 #[.agg #[.int .i64 x, .int .i64 y]] w (.int .i64 (sqV x y)) := by
  have hx := mul_bd h0 h1 h0 h1
  have hy := mul_bd h2 h3 h2 h3
  (unfold Gives; go_enter Try.func73, Try.ntmps73)
  go_wp2
  go_ret
  refine ⟨ret_int ?_, (by repeat (first | with_reducible exact Up.refl _ | apply Up.ext | apply Up.alloc | apply Up.drew | (refine Up.setCell ?_ (by simp; try omega) _)))⟩
  rfl

def nearB (x y r : Int) : Bool := farV (x, y) && withinB r 0 268435456 && decide (sqV x y ≤ r * r)
theorem near_any (x y r : Int) (w : World) : Gives Try.prog 17 #[.agg #[.int .i64 x, .int .i64 y], .int .i64 r] w (.bool (nearB x y r)) := by
  by_cases h : (farV (x, y) && withinB r 0 268435456) = true
  · obtain ⟨h1, h2⟩ := Bool.and_eq_true_iff.1 h
    obtain ⟨⟨x0, x1⟩, y0, y1⟩ := (farV_iff _).1 h1
    simp [withinB] at h2
    have hr := mul_bd (x := r) (y := r) (B := 268435456) (C := 268435456) (by omega) (by omega) (by omega) (by omega)
    have hn : nearB x y r = decide (sqV x y ≤ r * r) := by unfold nearB; rw [h]; rfl
    rw [hn]
    clear h1 hn
    (unfold Gives; go_enter Try.func17, Try.ntmps17)
    go_wp2_with (first | (go_at_call 72; refine (asks1 _ _ _ _ _ (by simp)).mono ?_; intro _) | (go_at_call 73; refine (square_vec _ _ (by omega) (by omega) (by omega) (by omega) _).mono ?_; intro _))
    go_ret
    exact ⟨rfl, (by repeat (first | with_reducible exact Up.refl _ | apply Up.ext | apply Up.alloc | apply Up.drew | (refine Up.setCell ?_ (by simp; try omega) _)))⟩
  · have hn : nearB x y r = false := by unfold nearB; rw [Bool.eq_false_iff.2 h]; rfl
    have h' : (farV (x, y) && withinB r 0 268435456) = false := Bool.eq_false_iff.2 h
    rw [hn]
    clear h hn
    (unfold Gives; go_enter Try.func17, Try.ntmps17)
    go_wp2_with (go_at_call 72; refine (asks1 _ _ _ _ _ (by simp)).mono ?_; intro _)
    go_ret
    exact ⟨rfl, (by repeat (first | with_reducible exact Up.refl _ | apply Up.ext | apply Up.alloc | apply Up.drew | (refine Up.setCell ?_ (by simp; try omega) _)))⟩

/-- whether the segment from p to q comes within r of the origin -/
def comesB (px py qx qy r : Int) : Bool :=
  if 0 ≤ px * (qx - px) + py * (qy - py) then decide (sqV px py ≤ r * r)
  else if qx * (qx - px) + qy * (qy - py) ≤ 0 then decide (sqV qx qy ≤ r * r)
  else decide ((px * qy - py * qx) * (px * qy - py * qx) ≤ r * r * sqV (qx - px) (qy - py))

theorem less_split (x y : Int) : lessW (x / 18446744073709551616) (x % 18446744073709551616) (y / 18446744073709551616) (y % 18446744073709551616) = decide (x < y) := by
  unfold lessW
  exact decide_eq_decide.2 (by omega)

theorem comes_any (px py qx qy r : Int) (p0 : -268435456 ≤ px) (p1 : px ≤ 268435456) (p2 : -268435456 ≤ py) (p3 : py ≤ 268435456)
    (q0 : -268435456 ≤ qx) (q1 : qx ≤ 268435456) (q2 : -268435456 ≤ qy) (q3 : qy ≤ 268435456) (r0 : 0 ≤ r) (r1 : r ≤ 536870912) (w : World) :
    Gives Try.prog 77 #[.agg #[.int .i64 px, .int .i64 py], .agg #[.int .i64 qx, .int .i64 qy], .int .i64 r] w (.bool (comesB px py qx qy r)) := by
  obtain ⟨dx, hdx⟩ : ∃ dx, qx - px = dx := ⟨_, rfl⟩
  obtain ⟨dy, hdy⟩ : ∃ dy, qy - py = dy := ⟨_, rfl⟩
  have m1 := mul_bd (x := px) (y := dx) p0 p1 (show -536870912 ≤ dx by omega) (by omega)
  have m2 := mul_bd (x := py) (y := dy) p2 p3 (show -536870912 ≤ dy by omega) (by omega)
  have m3 := mul_bd (x := px) (y := qy) p0 p1 q2 q3
  have m4 := mul_bd (x := py) (y := qx) p2 p3 q0 q1
  have m5 := mul_bd (x := r) (y := r) (show -536870912 ≤ r by omega) r1 (show -536870912 ≤ r by omega) r1
  have m6 : 0 ≤ r * r := Int.mul_nonneg r0 r0
  have m7 := mul_bd (x := dx) (y := dx) (show -536870912 ≤ dx by omega) (by omega) (show -536870912 ≤ dx by omega) (by omega)
  have m8 := mul_bd (x := dy) (y := dy) (show -536870912 ≤ dy by omega) (by omega) (show -536870912 ≤ dy by omega) (by omega)
  have m9 : 0 ≤ dx * dx := mul_self_nonneg _
  have m10 : 0 ≤ dy * dy := mul_self_nonneg _
  have m11 : 0 ≤ sqV dx dy ∧ sqV dx dy ≤ 576460752303423488 := by unfold sqV; omega
  obtain ⟨c, hc⟩ : ∃ c, px * qy - py * qx = c := ⟨_, rfl⟩
  obtain ⟨m, hm⟩ : ∃ m, px * dx + py * dy = m := ⟨_, rfl⟩
  obtain ⟨L, hL⟩ : ∃ L, sqV dx dy = L := ⟨_, rfl⟩
  have hq : qx * dx + qy * dy = m + L := by
    rw [← hm, ← hL, show qx = px + dx by omega, show qy = py + dy by omega]
    unfold sqV
    grind
  have HV : comesB px py qx qy r = if 0 ≤ m then decide (sqV px py ≤ r * r) else if m + L ≤ 0 then decide (sqV qx qy ≤ r * r) else decide (c * c ≤ r * r * L) := by
    unfold comesB
    rw [hdx, hdy, hc, hL, hm, hq]
  have HC := hide HV
  have HX := hide hq
  rw [hL] at m11
  clear HV hq
  (unfold Gives; go_enter Try.func77, Try.ntmps77)
  go_wp2_with (go_at_call 73; refine (square_vec _ _ (by omega) (by omega) (by omega) (by omega) _).mono ?_; intro _)
  ((first | with_reducible refine wp_region_ext2 (by kernel_rfl) (by kernel_rfl) ?_ | refine wp_region_ext (by kernel_rfl) (by kernel_rfl) ?_); (repeat (go_big_quiet_step ((go_at_call 73; exact Gives.inRegion (square_vec _ _ (by omega) (by omega) (by omega) (by omega) _))))); refine wpQuiet_nil ?_; intro _ hw'; obtain ⟨_, hw''⟩ := hw'; subst hw'')
  go_wp2_with (first | (go_at_call 73; refine (square_vec _ _ (by omega) (by omega) (by omega) (by omega) _).mono ?_; intro _) | (go_at_call 114; refine (size_any _ (by omega) (by omega) _).mono ?_; intro _) | (go_at_call 115; refine (times_any _ _ (by omega) (by omega) (by omega) (by omega) _).mono ?_; intro _) | (go_at_call 116; refine (less_any _ _ _ _ _).mono ?_; intro _))
  · go_ret
    refine ⟨ret_bool ?_, (by repeat (first | with_reducible exact Up.refl _ | apply Up.ext | apply Up.alloc | apply Up.drew | (refine Up.setCell ?_ (by simp; try omega) _)))⟩
    rw [HC.out, if_pos (by omega)]
  · go_ret
    refine ⟨ret_bool ?_, (by repeat (first | with_reducible exact Up.refl _ | apply Up.ext | apply Up.alloc | apply Up.drew | (refine Up.setCell ?_ (by simp; try omega) _)))⟩
    rw [HC.out, if_neg (by omega), if_pos (by omega)]
  · go_ret
    refine ⟨ret_bool ?_, (by repeat (first | with_reducible exact Up.refl _ | apply Up.ext | apply Up.alloc | apply Up.drew | (refine Up.setCell ?_ (by simp; try omega) _)))⟩
    rw [HC.out, if_neg (by omega), if_neg (by omega), less_split, ← decide_not]
    exact decide_eq_decide.2 (by omega)

def withinS (px py qx qy r : Int) : Bool := asks2B px py qx qy r && comesB px py qx qy r
theorem within_seg (px py qx qy r : Int) (w : World) :
    Gives Try.prog 19 #[.agg #[.int .i64 px, .int .i64 py], .agg #[.int .i64 qx, .int .i64 qy], .int .i64 r] w (.bool (withinS px py qx qy r)) := by
  by_cases h : asks2B px py qx qy r = true
  · have hn : withinS px py qx qy r = comesB px py qx qy r := by unfold withinS; rw [h]; rfl
    have h' := h
    unfold asks2B at h'
    simp only [Bool.and_eq_true, farV_iff, withinB, decide_eq_true_eq] at h'
    rw [hn]
    clear hn
    (unfold Gives; go_enter Try.func19, Try.ntmps19)
    go_wp2_with (first | (go_at_call 72; refine (asks2 _ _ _ _ _ _ _ (by simp)).mono ?_; intro _) | (go_at_call 77; refine (comes_any _ _ _ _ _ (by omega) (by omega) (by omega) (by omega) (by omega) (by omega) (by omega) (by omega) (by omega) (by omega) _).mono ?_; intro _))
    go_ret
    exact ⟨rfl, (by repeat (first | with_reducible exact Up.refl _ | apply Up.ext | apply Up.alloc | apply Up.drew | (refine Up.setCell ?_ (by simp; try omega) _)))⟩
  · have h' : asks2B px py qx qy r = false := Bool.eq_false_iff.2 h
    have hn : withinS px py qx qy r = false := by unfold withinS; rw [h']; rfl
    rw [hn]
    clear h hn
    (unfold Gives; go_enter Try.func19, Try.ntmps19)
    go_wp2_with (go_at_call 72; refine (asks2 _ _ _ _ _ _ _ (by simp)).mono ?_; intro _)
    go_ret
    exact ⟨rfl, (by repeat (first | with_reducible exact Up.refl _ | apply Up.ext | apply Up.alloc | apply Up.drew | (refine Up.setCell ?_ (by simp; try omega) _)))⟩

end Go.Proofs.Ytfpdnmfklmgmfaa
