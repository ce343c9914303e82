/- The document's own functions about places, distances and wide products: what they return. -/
import Derived.Test.YtfpdnmfklmgmfaaAwake
namespace Go.Proofs.Ytfpdnmfklmgmfaa
open Go.RowKit

theorem rbetween_any (n lo hi : Int) (w : World) : Gives Try.prog 75 #[.int .i64 n, .int .i64 lo, .int .i64 hi] w (.bool (withinB n lo hi)) := by
  (unfold Gives; go_enter Try.func75, Try.ntmps75)
  go_wp2
  all_goals go_ret
  all_goals refine ⟨ret_bool ?_, Up.refl _⟩
  all_goals (simp [withinB]; omega)

theorem rfar_any (n : Int) (w : World) : Gives Try.prog 98 #[.int .i64 n] w (.bool (farB n)) := by
  (unfold Gives; go_enter Try.func98, Try.ntmps98)
  go_wp2_with (go_at_call 75; refine (rbetween_any _ _ _ _).mono ?_; intro _)
  go_ret
  exact ⟨rfl, (by repeat (first | with_reducible exact Up.refl _ | apply Up.ext | apply Up.alloc | apply Up.drew | (refine Up.setCell ?_ (by simp; try omega) _)))⟩

theorem rplace_any (x y : Int) (w : World) : Gives Try.prog 74 #[.agg #[.int .i64 x, .int .i64 y]] w (.bool (farV (x, y))) := by
  (unfold Gives; go_enter Try.func74, Try.ntmps74)
  go_wp2_with (go_at_call 98; refine (rfar_any _ _).mono ?_; intro _)
  all_goals (go_ret; refine ⟨ret_bool ?_, (by repeat (first | with_reducible exact Up.refl _ | apply Up.ext | apply Up.alloc | apply Up.drew | (refine Up.setCell ?_ (by simp; try omega) _)))⟩)
  all_goals (go_light; first | (simp_all [farV]; done) | (simp_all [farV]; omega) | (simp_all [farV]; repeat' split; all_goals (first | (simp_all; done) | omega | (simp_all; omega))))

theorem rsquare_any (x y : Int) (h0 : -1073741824 ≤ x) (h1 : x ≤ 1073741824) (h2 : -1073741824 ≤ y) (h3 : y ≤ 1073741824) (w : World) :
    Gives Try.prog 76 #[.agg #[.int .i64 x, .int .i64 y]] w (.int .i64 (sqV x y)) := by
  have hx := mul_bd h0 h1 h0 h1
  have hy := mul_bd h2 h3 h2 h3
  (unfold Gives; go_enter Try.func76, Try.ntmps76)
  go_wp2
  go_ret
  refine ⟨ret_int ?_, (by repeat (first | with_reducible exact Up.refl _ | apply Up.ext | apply Up.alloc | apply Up.drew | (refine Up.setCell ?_ (by simp; try omega) _)))⟩
  rfl

theorem rsize_any (n : Int) (h0 : -9223372036854775808 ≤ n) (h1 : n ≤ 9223372036854775807) (w : World) : Gives Try.prog 120 #[.int .i64 n] w (.int .u64 (n.natAbs : Int)) := by
  (unfold Gives; go_enter Try.func120, Try.ntmps120)
  go_wp2
  all_goals (go_ret; refine ⟨ret_int ?_, (by repeat (first | with_reducible exact Up.refl _ | apply Up.ext | apply Up.alloc | apply Up.drew | (refine Up.setCell ?_ (by simp; try omega) _)))⟩)
  · rw [IntKind.wrap_u64, IntKind.wrap_u64]; omega
  · omega

/-- is a product below 0 -/
def negW (a b : Int) : Bool := decide (a * b < 0)
theorem neg_split (a b : Int) : decide (a * b < 0) = ((decide (a < 0) != decide (b < 0)) && (decide (0 < (a.natAbs : Int) * b.natAbs / 18446744073709551616) || decide (0 < (a.natAbs : Int) * b.natAbs % 18446744073709551616))) := by
  have hpos : (0 < (a.natAbs : Int) * b.natAbs / 18446744073709551616 ∨ 0 < (a.natAbs : Int) * b.natAbs % 18446744073709551616) ↔ 0 < (a.natAbs : Int) * b.natAbs := by
    have : 0 ≤ (a.natAbs : Int) * b.natAbs := Int.mul_nonneg (by omega) (by omega)
    omega
  rw [← Bool.decide_or, show decide (0 < (a.natAbs : Int) * b.natAbs / 18446744073709551616 ∨ 0 < (a.natAbs : Int) * b.natAbs % 18446744073709551616) = decide (0 < (a.natAbs : Int) * b.natAbs) from decide_eq_decide.2 hpos]
  have habs : (a.natAbs : Int) * b.natAbs = ((a * b).natAbs : Int) := by rw [Int.natAbs_mul]; exact (Int.natCast_mul _ _).symm
  simp only [habs]
  clear hpos habs
  by_cases ha : a < 0
  · by_cases hb : b < 0
    · have := Int.mul_pos_of_neg_of_neg ha hb
      simp [ha, hb]; omega
    · rcases Int.lt_or_eq_of_le (show 0 ≤ b by omega) with h | h
      · have := Int.mul_neg_of_neg_of_pos ha h
        simp [ha, hb, this]; omega
      · subst h; simp
  · by_cases hb : b < 0
    · rcases Int.lt_or_eq_of_le (show 0 ≤ a by omega) with h | h
      · have := Int.mul_neg_of_pos_of_neg h hb
        simp [ha, hb, this]; omega
      · subst h; simp
    · have := Int.mul_nonneg (show 0 ≤ a by omega) (show 0 ≤ b by omega)
      simp [ha, hb]; omega

theorem rwide_any (a b : Int) (ha0 : -9223372036854775808 ≤ a) (ha1 : a ≤ 9223372036854775807) (hb0 : -9223372036854775808 ≤ b) (hb1 : b ≤ 9223372036854775807) (w : World) :
    Gives Try.prog 84 #[.int .i64 a, .int .i64 b] w
      (.agg #[.bool (negW a b), .int .u64 ((a.natAbs : Int) * b.natAbs / 18446744073709551616), .int .u64 ((a.natAbs : Int) * b.natAbs % 18446744073709551616)]) := by
  unfold negW
  rw [neg_split]
  (unfold Gives; go_enter Try.func84, Try.ntmps84)
  go_wp2_with (first | (go_at_call 120; refine (rsize_any _ (by omega) (by omega) _).mono ?_; intro _) | (go_at_call 119; refine (mul64_any _ _ (by omega) (by omega) (by omega) (by omega) _).mono ?_; intro _))
  all_goals (refine bodyPost_give (by repeat (first | with_reducible exact Up.refl _ | apply Up.ext | apply Up.alloc | apply Up.drew | (refine Up.setCell ?_ (by simp; try omega) _))) rfl ⟨_, (by simp [results, Try.results84, go_sem]; rfl), ?_⟩)
  all_goals (by_cases ha : a < 0 <;> by_cases hb : b < 0 <;> first | (simp_all; done) | (simp_all; omega))

def orderW (h l h' l' : Int) : Int := if lessW h l h' l' = true then -1 else if h = h' ∧ l = l' then 0 else 1
theorem rorder_any (n n' : Bool) (h l h' l' : Int) (w : World) :
    Gives Try.prog 117 #[.agg #[.bool n, .int .u64 h, .int .u64 l], .agg #[.bool n', .int .u64 h', .int .u64 l']] w (.int .i64 (orderW h l h' l')) := by
  (unfold Gives; go_enter Try.func117, Try.ntmps117)
  go_wp2
  all_goals (go_ret; refine ⟨ret_int ?_, (by repeat (first | with_reducible exact Up.refl _ | apply Up.ext | apply Up.alloc | apply Up.drew | (refine Up.setCell ?_ (by simp; try omega) _)))⟩)
  all_goals (go_light; first | (simp_all [orderW, lessW]; done) | (simp_all [orderW, lessW]; omega) | (simp_all [orderW, lessW]; repeat' split; all_goals (first | (simp_all; done) | omega | (simp_all; omega))))

theorem order_split (x y : Int) : decide (orderW (x / 18446744073709551616) (x % 18446744073709551616) (y / 18446744073709551616) (y % 18446744073709551616) ≤ 0) = decide (x ≤ y) := by
  unfold orderW
  rw [less_split]
  refine decide_eq_decide.2 ?_
  simp only [decide_eq_true_eq]
  split
  · omega
  · split <;> omega

theorem rwithin_any (px py qx qy r : Int) (p0 : -268435456 ≤ px) (p1 : px ≤ 268435456) (p2 : -268435456 ≤ py) (p3 : py ≤ 268435456)
    (q0 : -268435456 ≤ qx) (q1 : qx ≤ 268435456) (q2 : -268435456 ≤ qy) (q3 : qy ≤ 268435456) (r0 : 0 ≤ r) (r1 : r ≤ 1073741824) (w : World) :
    Gives Try.prog 78 #[.agg #[.int .i64 px, .int .i64 py], .agg #[.int .i64 qx, .int .i64 qy], .int .i64 r] w (.bool (comesB px py qx qy r)) := by
  obtain ⟨dx, hdx⟩ : ∃ dx, qx - px = dx := ⟨_, rfl⟩
  obtain ⟨dy, hdy⟩ : ∃ dy, qy - py = dy := ⟨_, rfl⟩
  have m1 := mul_bd (x := px) (y := dx) p0 p1 (show -536870912 ≤ dx by omega) (by omega)
  have m2 := mul_bd (x := py) (y := dy) p2 p3 (show -536870912 ≤ dy by omega) (by omega)
  have m1' := mul_bd (x := qx) (y := dx) q0 q1 (show -536870912 ≤ dx by omega) (by omega)
  have m2' := mul_bd (x := qy) (y := dy) q2 q3 (show -536870912 ≤ dy by omega) (by omega)
  have m3 := mul_bd (x := px) (y := qy) p0 p1 q2 q3
  have m4 := mul_bd (x := py) (y := qx) p2 p3 q0 q1
  have m5 := mul_bd (x := r) (y := r) (show -1073741824 ≤ r by omega) r1 (show -1073741824 ≤ r by omega) r1
  have m6 : 0 ≤ r * r := Int.mul_nonneg r0 r0
  have m7 := mul_bd (x := dx) (y := dx) (show -536870912 ≤ dx by omega) (by omega) (show -536870912 ≤ dx by omega) (by omega)
  have m8 := mul_bd (x := dy) (y := dy) (show -536870912 ≤ dy by omega) (by omega) (show -536870912 ≤ dy by omega) (by omega)
  have m9 : 0 ≤ dx * dx := mul_self_nonneg _
  have m10 : 0 ≤ dy * dy := mul_self_nonneg _
  have m11 : 0 ≤ sqV dx dy ∧ sqV dx dy ≤ 576460752303423488 := by unfold sqV; omega
  obtain ⟨c, hc⟩ : ∃ c, px * qy - py * qx = c := ⟨_, rfl⟩
  obtain ⟨m, hm⟩ : ∃ m, px * dx + py * dy = m := ⟨_, rfl⟩
  obtain ⟨n, hn⟩ : ∃ n, qx * dx + qy * dy = n := ⟨_, rfl⟩
  obtain ⟨L, hL⟩ : ∃ L, sqV dx dy = L := ⟨_, rfl⟩
  have HV : comesB px py qx qy r = if 0 ≤ m then decide (sqV px py ≤ r * r) else if n ≤ 0 then decide (sqV qx qy ≤ r * r) else decide (c * c ≤ r * r * L) := by
    unfold comesB
    rw [hdx, hdy, hc, hL, hm, hn]
  have HC := hide HV
  rw [hL] at m11
  clear HV
  (unfold Gives; go_enter Try.func78, Try.ntmps78)
  go_wp2_with (go_at_call 76; refine (rsquare_any _ _ (by omega) (by omega) (by omega) (by omega) _).mono ?_; intro _)
  · go_ret
    refine ⟨ret_bool ?_, (by repeat (first | with_reducible exact Up.refl _ | apply Up.ext | apply Up.alloc | apply Up.drew | (refine Up.setCell ?_ (by simp; try omega) _)))⟩
    rw [HC.out, if_pos (by omega)]
  · go_ret
    refine ⟨ret_bool ?_, (by repeat (first | with_reducible exact Up.refl _ | apply Up.ext | apply Up.alloc | apply Up.drew | (refine Up.setCell ?_ (by simp; try omega) _)))⟩
    rw [HC.out, if_neg (by omega), if_pos (by omega)]
  · ((first | with_reducible refine wp_region_ext2 (by kernel_rfl) (by kernel_rfl) ?_ | refine wp_region_ext (by kernel_rfl) (by kernel_rfl) ?_); (repeat (go_big_quiet_step ((first | (go_at_call 84; exact Gives.inRegion (rwide_any _ _ (by omega) (by omega) (by omega) (by omega) _)) | (go_at_call 76; exact Gives.inRegion (rsquare_any _ _ (by omega) (by omega) (by omega) (by omega) _)) | (go_at_call 117; exact Gives.inRegion (rorder_any _ _ _ _ _ _ _)))))); refine wpQuiet_nil ?_; intro _ hw'; obtain ⟨_, hw''⟩ := hw'; subst hw'')
    go_wp2
    go_ret
    refine ⟨ret_bool ?_, (by repeat (first | with_reducible exact Up.refl _ | apply Up.ext | apply Up.alloc | apply Up.drew | (refine Up.setCell ?_ (by simp; try omega) _)))⟩
    rw [HC.out, if_neg (by omega), if_neg (by omega), show ((r * r).natAbs : Int) = r * r by omega, show (L.natAbs : Int) = L by omega]
    exact order_split _ _

theorem rnear_any (x y r : Int) (w : World) : Gives Try.prog 18 #[.agg #[.int .i64 x, .int .i64 y], .int .i64 r] w (.bool (nearB x y r)) := by
  by_cases h1 : farV (x, y) = true
  · by_cases h2 : withinB r 0 268435456 = true
    · have hn : nearB x y r = decide (sqV x y ≤ r * r) := by unfold nearB; rw [h1, h2]; rfl
      obtain ⟨⟨x0, x1⟩, y0, y1⟩ := (farV_iff _).1 h1
      have h3 := h2
      simp [withinB] at h3
      have hr := mul_bd (x := r) (y := r) (B := 268435456) (C := 268435456) (by omega) (by omega) (by omega) (by omega)
      rw [hn]
      clear hn
      (unfold Gives; go_enter Try.func18, Try.ntmps18)
      go_wp2_with (first | (go_at_call 74; refine (rplace_any _ _ _).mono ?_; intro _) | (go_at_call 75; refine (rbetween_any _ _ _ _).mono ?_; intro _) | (go_at_call 76; refine (rsquare_any _ _ (by omega) (by omega) (by omega) (by omega) _).mono ?_; intro _))
      go_ret
      exact ⟨rfl, (by repeat (first | with_reducible exact Up.refl _ | apply Up.ext | apply Up.alloc | apply Up.drew | (refine Up.setCell ?_ (by simp; try omega) _)))⟩
    · have h2' : withinB r 0 268435456 = false := Bool.eq_false_iff.2 h2
      have hn : nearB x y r = false := by unfold nearB; rw [h1, h2']; rfl
      rw [hn]
      clear hn h2
      (unfold Gives; go_enter Try.func18, Try.ntmps18)
      go_wp2_with (first | (go_at_call 74; refine (rplace_any _ _ _).mono ?_; intro _) | (go_at_call 75; refine (rbetween_any _ _ _ _).mono ?_; intro _))
      go_ret
      exact ⟨rfl, (by repeat (first | with_reducible exact Up.refl _ | apply Up.ext | apply Up.alloc | apply Up.drew | (refine Up.setCell ?_ (by simp; try omega) _)))⟩
  · have h1' : farV (x, y) = false := Bool.eq_false_iff.2 h1
    have hn : nearB x y r = false := by unfold nearB; rw [h1']; rfl
    rw [hn]
    clear hn h1
    (unfold Gives; go_enter Try.func18, Try.ntmps18)
    go_wp2_with (first | (go_at_call 74; refine (rplace_any _ _ _).mono ?_; intro _) | (go_at_call 75; refine (rbetween_any _ _ _ _).mono ?_; intro _))
    go_ret
    exact ⟨rfl, (by repeat (first | with_reducible exact Up.refl _ | apply Up.ext | apply Up.alloc | apply Up.drew | (refine Up.setCell ?_ (by simp; try omega) _)))⟩

theorem rWithin_any (px py qx qy r : Int) (w : World) :
    Gives Try.prog 20 #[.agg #[.int .i64 px, .int .i64 py], .agg #[.int .i64 qx, .int .i64 qy], .int .i64 r] w (.bool (withinS px py qx qy r)) := by
  by_cases h1 : farV (px, py) = true
  · by_cases h2 : farV (qx, qy) = true
    · by_cases h3 : withinB r 0 268435456 = true
      · have hn : withinS px py qx qy r = comesB px py qx qy r := by unfold withinS asks2B; rw [h1, h2, h3]; rfl
        have h1' := (farV_iff _).1 h1
        have h2' := (farV_iff _).1 h2
        have h3' := h3
        simp only [withinB, decide_eq_true_eq] at h1' h2' h3'
        rw [hn]
        clear hn
        (unfold Gives; go_enter Try.func20, Try.ntmps20)
        go_wp2_with (first | (go_at_call 74; refine (rplace_any _ _ _).mono ?_; intro _) | (go_at_call 75; refine (rbetween_any _ _ _ _).mono ?_; intro _) | (go_at_call 78; refine (rwithin_any _ _ _ _ _ (by omega) (by omega) (by omega) (by omega) (by omega) (by omega) (by omega) (by omega) (by omega) (by omega) _).mono ?_; intro _))
        go_ret
        exact ⟨rfl, (by repeat (first | with_reducible exact Up.refl _ | apply Up.ext | apply Up.alloc | apply Up.drew | (refine Up.setCell ?_ (by simp; try omega) _)))⟩
      · have h3' : withinB r 0 268435456 = false := Bool.eq_false_iff.2 h3
        have hn : withinS px py qx qy r = false := by unfold withinS asks2B; rw [h1, h2, h3']; rfl
        rw [hn]
        clear hn h3
        (unfold Gives; go_enter Try.func20, Try.ntmps20)
        go_wp2_with (first | (go_at_call 74; refine (rplace_any _ _ _).mono ?_; intro _) | (go_at_call 75; refine (rbetween_any _ _ _ _).mono ?_; intro _))
        go_ret
        exact ⟨rfl, (by repeat (first | with_reducible exact Up.refl _ | apply Up.ext | apply Up.alloc | apply Up.drew | (refine Up.setCell ?_ (by simp; try omega) _)))⟩
    · have h2' : farV (qx, qy) = false := Bool.eq_false_iff.2 h2
      have hn : withinS px py qx qy r = false := by unfold withinS asks2B; rw [h1, h2']; rfl
      rw [hn]
      clear hn h2
      (unfold Gives; go_enter Try.func20, Try.ntmps20)
      go_wp2_with (first | (go_at_call 74; refine (rplace_any _ _ _).mono ?_; intro _) | (go_at_call 75; refine (rbetween_any _ _ _ _).mono ?_; intro _))
      go_ret
      exact ⟨rfl, (by repeat (first | with_reducible exact Up.refl _ | apply Up.ext | apply Up.alloc | apply Up.drew | (refine Up.setCell ?_ (by simp; try omega) _)))⟩
  · have h1' : farV (px, py) = false := Bool.eq_false_iff.2 h1
    have hn : withinS px py qx qy r = false := by unfold withinS asks2B; rw [h1']; rfl
    rw [hn]
    clear hn h1
    (unfold Gives; go_enter Try.func20, Try.ntmps20)
    go_wp2_with (first | (go_at_call 74; refine (rplace_any _ _ _).mono ?_; intro _) | (go_at_call 75; refine (rbetween_any _ _ _ _).mono ?_; intro _))
    go_ret
    exact ⟨rfl, (by repeat (first | with_reducible exact Up.refl _ | apply Up.ext | apply Up.alloc | apply Up.drew | (refine Up.setCell ?_ (by simp; try omega) _)))⟩

end Go.Proofs.Ytfpdnmfklmgmfaa
