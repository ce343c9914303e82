/- The chapter's examples that each law asks. -/
import Derived.Test.YtfpdnmfklmgmfaaClear
import Derived.Test.YtfpdnmfklmgmfaaPlain
namespace Go.Proofs.Ytfpdnmfklmgmfaa
open Go.RowKit

theorem of_any (a b : Int) (w : World) : Gives Try.prog 69 #[.int .i64 a, .int .i64 b] w (.agg #[.int .i64 a, .int .i64 b]) := by
  (unfold Gives; go_enter Try.func69, Try.ntmps69)
  go_wp2
  all_goals (refine bodyPost_give (by repeat (first | with_reducible exact Up.refl _ | apply Up.ext | apply Up.alloc | apply Up.drew | (refine Up.setCell ?_ (by simp; try omega) _))) rfl ⟨_, (by simp [results, Try.results69, go_sem]; rfl), ?_⟩)
  all_goals rfl

theorem area_any (a b c d : Int) (w : World) : Gives Try.prog 81 #[.int .i64 a, .int .i64 b, .int .i64 c, .int .i64 d] w (.agg #[.int .i64 a, .int .i64 b, .int .i64 c, .int .i64 d]) := by
  (unfold Gives; go_enter Try.func81, Try.ntmps81)
  go_wp2_with (go_at_call 69; refine (of_any _ _ _).mono ?_; intro _)
  all_goals (refine bodyPost_give (by repeat (first | with_reducible exact Up.refl _ | apply Up.ext | apply Up.alloc | apply Up.drew | (refine Up.setCell ?_ (by simp; try omega) _))) rfl ⟨_, (by simp [results, Try.results81, go_sem]; rfl), ?_⟩)
  all_goals rfl

theorem awake_mul : mulS (-2) 3 (-5) 4 = (-15, 12, 0) := by decide +kernel
theorem awake_clear : clearB (5, 6, -9, -8) (5, 6, 8, 9) 4 = true := by decide +kernel
theorem miss_eq {px py qx qy k : Int} (h : asks2B px py qx qy 0 = true) (hk0 : 0 ≤ k) (hk1 : k < 536870912) (hF : comesB px py qx qy k = true) (hN : k = 0 ∨ comesB px py qx qy (k - 1) = false) : missV px py qx qy = k := by
  unfold missV
  rw [if_pos h]
  obtain ⟨n, rfl⟩ := Int.eq_ofNat_of_zero_le hk0
  congr 1
  refine bis_eq _ n 536870912 0 _ (by omega) (by omega) (by omega) (fun x _ hx => ?_) (fun x hx _ => comes_mono hk0 (by omega) hF)
  rcases hN with h | h
  · omega
  · rcases hx2 : comesB px py qx qy x with _ | _
    · rfl
    · have := comes_mono (s := (n : Int) - 1) (by omega) (by omega) hx2
      rw [h] at this; cases this
theorem awake_miss : missV 2 3 10 3 = 4 := miss_eq (by decide +kernel) (by omega) (by omega) (by decide +kernel) (.inr (by decide +kernel))

theorem awake_any (w : World) : Gives Try.prog 23 #[] w (.bool true) := by
  have h1 := awake_mul
  have h2 := awake_miss
  have h3 := awake_clear
  have H1 := fun w => mul_any (-2) 3 (-5) 4 w
  rw [h1] at H1
  have H2 := fun w => miss_any 2 3 10 3 w
  rw [h2] at H2
  have H3 := fun w => clear_any (5, 6, -9, -8) (5, 6, 8, 9) 4 w
  rw [h3] at H3
  dsimp only at H1 H2 H3
  have K1 := hide H1
  have K2 := hide H2
  have K3 := hide H3
  clear h1 h2 h3 H1 H2 H3
  (unfold Gives; go_enter Try.func23, Try.ntmps23)
  go_wp2_with (first | (go_at_call 69; refine (of_any _ _ _).mono ?_; intro _) | (go_at_call 56; refine (K1.out _).mono ?_; intro _))
  ((first | with_reducible refine wp_region_ext2 (by kernel_rfl) (by kernel_rfl) ?_ | refine wp_region_ext (by kernel_rfl) (by kernel_rfl) ?_); (repeat (go_big_quiet_step ((first | (go_at_call 69; exact Gives.inRegion (of_any _ _ _)) | (go_at_call 21; exact Gives.inRegion (K2.out _)) | (go_at_call 81; exact Gives.inRegion (area_any _ _ _ _ _)) | (go_at_call 65; exact Gives.inRegion (K3.out _)))))); refine wpQuiet_nil ?_; intro _ hw'; obtain ⟨_, hw''⟩ := hw'; subst hw'')
  go_wp2
  go_ret
  exact ⟨rfl, (by repeat (first | with_reducible exact Up.refl _ | apply Up.ext | apply Up.alloc | apply Up.drew | (refine Up.setCell ?_ (by simp; try omega) _)))⟩
end Go.Proofs.Ytfpdnmfklmgmfaa
