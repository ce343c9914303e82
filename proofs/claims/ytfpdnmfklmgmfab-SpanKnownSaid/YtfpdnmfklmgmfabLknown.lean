/- SpanKnown returns true: the chapter's examples have the results given there. No conditions. -/
import Derived.Test.YtfpdnmfklmgmfabPost
import Derived.Test.YtfpdnmfklmgmfabRootW
import Derived.Test.YtfpdnmfklmgmfabSigns
import Derived.Test.YtfpdnmfklmgmfabHitsb
import Derived.Test.YtfpdnmfklmgmfabAwake
import Derived.Test.YtfpdnmfklmgmfabSpanB
import Derived.JoinedOf
import Derived.JoinedAt
import Derived.ChangeSame
import Derived.OpenShut
namespace Go.Proofs.Ytfpdnmfklmgmfab
open Go.RowKit Go.ChangeShapes Go.WideShapes Go.ChangeAt Go.Joins

theorem known0 (w : World) : Gives Try.prog 5 #[.agg #[.int .i64 2, .int .i64 1]] w (.int .i64 11) := by
  have h := check_any 2 1 w
  rw [show checkE 2 1 = 11 from by decide +kernel] at h
  exact h
theorem known1 (w : World) : Gives Try.prog 5 #[.agg #[.int .i64 0, .int .i64 1152921504606846976]] w (.int .i64 0) := by
  have h := check_any 0 1152921504606846976 w
  rw [show checkE 0 1152921504606846976 = 0 from by decide +kernel] at h
  exact h
theorem known2 (w : World) : Gives Try.prog 5 #[.agg #[.int .i64 0, .int .i64 1152921504606846977]] w (.int .i64 2) := by
  have h := check_any 0 1152921504606846977 w
  rw [show checkE 0 1152921504606846977 = 2 from by decide +kernel] at h
  exact h
theorem known3 (w : World) : Gives Try.prog 7 #[.agg #[.int .i64 2, .int .i64 3], .agg #[.int .i64 1, .int .i64 3]] w (.bool true) := by
  have h := inside_any 2 3 1 3 w
  rw [show insideB 2 3 1 3 = true from by decide +kernel] at h
  exact h
theorem known4 (w : World) : Gives Try.prog 8 #[.agg #[.int .i64 1, .int .i64 2], .agg #[.int .i64 5, .int .i64 7]] w (.agg #[.int .i64 1, .int .i64 7]) := by
  have h := hull_any 1 2 5 7 w
  rw [show hullS 1 2 5 7 = (1, 7) from by decide +kernel] at h
  exact h
theorem known5 (w : World) : Gives Try.prog 9 #[.agg #[.int .i64 1, .int .i64 4], .agg #[.int .i64 3, .int .i64 9]] w (.tuple #[.agg #[.int .i64 3, .int .i64 4], .bool true]) := by
  have h := meet_any 1 4 3 9 w
  rw [show meetS 1 4 3 9 = (3, 4, true) from by decide +kernel] at h
  exact h
theorem known6 (w : World) : Gives Try.prog 9 #[.agg #[.int .i64 1, .int .i64 2], .agg #[.int .i64 3, .int .i64 4]] w (.tuple #[.agg #[.int .i64 0, .int .i64 0], .bool false]) := by
  have h := meet_any 1 2 3 4 w
  rw [show meetS 1 2 3 4 = (0, 0, false) from by decide +kernel] at h
  exact h
theorem known7 (w : World) : Gives Try.prog 10 #[.agg #[.int .i64 (-3), .int .i64 2]] w (.tuple #[.agg #[.int .i64 (-3), .int .i64 (-1)], .agg #[.int .i64 0, .int .i64 2], .bool true]) := by
  have h := split_any (-3) 2 w
  rw [show splitS (-3) 2 = (-3, -1, 0, 2, true) from by decide +kernel] at h
  exact h
theorem known8 (w : World) : Gives Try.prog 10 #[.agg #[.int .i64 5, .int .i64 5]] w (.tuple #[.agg #[.int .i64 0, .int .i64 0], .agg #[.int .i64 0, .int .i64 0], .bool false]) := by
  have h := split_any 5 5 w
  rw [show splitS 5 5 = (0, 0, 0, 0, false) from by decide +kernel] at h
  exact h
theorem known9 (w : World) : Gives Try.prog 11 #[.agg #[.int .i64 (-1), .int .i64 2], .agg #[.int .i64 3, .int .i64 4]] w (.tuple #[.agg #[.int .i64 2, .int .i64 6], .int .i64 0]) := by
  have h := add_any (-1) 2 3 4 w
  rw [show addS (-1) 2 3 4 = (2, 6, 0) from by decide +kernel] at h
  exact h
theorem known10 (w : World) : Gives Try.prog 12 #[.agg #[.int .i64 (-1), .int .i64 2], .agg #[.int .i64 3, .int .i64 4]] w (.tuple #[.agg #[.int .i64 (-5), .int .i64 (-1)], .int .i64 0]) := by
  have h := sub_any (-1) 2 3 4 w
  rw [show subS (-1) 2 3 4 = ((-5), (-1), 0) from by decide +kernel] at h
  exact h
theorem known11 (w : World) : Gives Try.prog 13 #[.agg #[.int .i64 (-3), .int .i64 2]] w (.tuple #[.agg #[.int .i64 0, .int .i64 9], .int .i64 0]) := by
  have h := square_any (-3) 2 w
  rw [show squareS (-3) 2 = (0, 9, 0) from by decide +kernel] at h
  exact h
theorem known12 (w : World) : Gives Try.prog 14 #[.agg #[.int .i64 7, .int .i64 10], .agg #[.int .i64 2, .int .i64 3]] w (.tuple #[.agg #[.int .i64 2, .int .i64 5], .int .i64 0]) := by
  have h := quot_any 7 10 2 3 w
  rw [show quotS 7 10 2 3 = (2, 5, 0) from by decide +kernel] at h
  exact h
theorem known13 (w : World) : Gives Try.prog 14 #[.agg #[.int .i64 (-7), .int .i64 10], .agg #[.int .i64 2, .int .i64 3]] w (.tuple #[.agg #[.int .i64 (-4), .int .i64 5], .int .i64 0]) := by
  have h := quot_any (-7) 10 2 3 w
  rw [show quotS (-7) 10 2 3 = ((-4), 5, 0) from by decide +kernel] at h
  exact h
theorem known14 (w : World) : Gives Try.prog 14 #[.agg #[.int .i64 1, .int .i64 1], .agg #[.int .i64 (-1), .int .i64 1]] w (.tuple #[.agg #[.int .i64 0, .int .i64 0], .int .i64 2]) := by
  have h := quot_any 1 1 (-1) 1 w
  rw [show quotS 1 1 (-1) 1 = (0, 0, 2) from by decide +kernel] at h
  exact h
theorem known15 (w : World) : Gives Try.prog 15 #[.agg #[.int .i64 1099511627776, .int .i64 1099511627776], .agg #[.int .i64 2097152, .int .i64 2097152]] w (.tuple #[.agg #[.int .i64 0, .int .i64 0], .int .i64 14]) := by
  have h := mul_any 1099511627776 1099511627776 2097152 2097152 w
  rw [show mulS 1099511627776 1099511627776 2097152 2097152 = (0, 0, 14) from by decide +kernel] at h
  exact h
theorem known16 (w : World) : Gives Try.prog 16 #[.int .i64 7, .int .i64 3, .int .i64 2] w (.tuple #[.int .i64 10, .int .i64 11, .int .i64 0]) := by
  have h := muldiv_any 7 3 2 w
  rw [show mulDivE 7 3 2 = (10, 11, 0) from by decide +kernel] at h
  exact h
theorem known17 (w : World) : Gives Try.prog 16 #[.int .i64 (-7), .int .i64 3, .int .i64 2] w (.tuple #[.int .i64 (-11), .int .i64 (-10), .int .i64 0]) := by
  have h := muldiv_any (-7) 3 2 w
  rw [show mulDivE (-7) 3 2 = ((-11), (-10), 0) from by decide +kernel] at h
  exact h
theorem known18 (w : World) : Gives Try.prog 16 #[.int .i64 576460752303423488, .int .i64 576460752303423488, .int .i64 288230376151711744] w (.tuple #[.int .i64 1152921504606846976, .int .i64 1152921504606846976, .int .i64 0]) := by
  have h := muldiv_any 576460752303423488 576460752303423488 288230376151711744 w
  rw [show mulDivE 576460752303423488 576460752303423488 288230376151711744 = (1152921504606846976, 1152921504606846976, 0) from by decide +kernel] at h
  exact h
theorem known19 (w : World) : Gives Try.prog 16 #[.int .i64 1152921504606846976, .int .i64 2, .int .i64 1] w (.tuple #[.int .i64 0, .int .i64 0, .int .i64 14]) := by
  have h := muldiv_any 1152921504606846976 2 1 w
  rw [show mulDivE 1152921504606846976 2 1 = (0, 0, 14) from by decide +kernel] at h
  exact h
theorem known20 (w : World) : Gives Try.prog 17 #[.agg #[.int .i64 2, .int .i64 17]] w (.tuple #[.agg #[.int .i64 1, .int .i64 5], .int .i64 0]) := by
  have h := roots_any 2 17 w
  rw [show rootsS 2 17 = (1, 5, 0) from by decide +kernel] at h
  exact h
theorem known21 (w : World) : Gives Try.prog 18 #[.int .i64 15] w (.int .i64 3) := by
  have h := Root_any 15 (by omega) (by omega) w
  rw [show rootV 15 = 3 from by decide +kernel] at h
  exact h
theorem known22 (w : World) : Gives Try.prog 18 #[.int .i64 16] w (.int .i64 4) := by
  have h := Root_any 16 (by omega) (by omega) w
  rw [show rootV 16 = 4 from by decide +kernel] at h
  exact h
theorem known23 (w : World) : Gives Try.prog 18 #[.int .i64 (-1)] w (.int .i64 (-1)) := by
  have h := Root_any (-1) (by omega) (by omega) w
  rw [show rootV (-1) = (-1) from by decide +kernel] at h
  exact h
theorem known24 (w : World) : Gives Try.prog 19 #[.agg #[.int .i64 4611686018427387904, .int .i64 1], .agg #[.int .i64 4611686018427387904, .int .i64 2]] w (.int .i64 1) := by
  have h := cross_sgn 4611686018427387904 1 4611686018427387904 2 (by omega) (by omega) (by omega) (by omega) (by omega) (by omega) (by omega) (by omega) w
  rw [show sgnI (4611686018427387904 * 2 - 1 * 4611686018427387904) = 1 from by decide +kernel] at h
  exact h
theorem known25 (w : World) : Gives Try.prog 20 #[.agg #[.int .i64 3, .int .i64 (-2)], .agg #[.int .i64 2, .int .i64 3]] w (.int .i64 0) := by
  have h := dot_sgn 3 (-2) 2 3 (by omega) (by omega) (by omega) (by omega) (by omega) (by omega) (by omega) (by omega) w
  rw [show sgnI (3 * 2 + (-2) * 3) = 0 from by decide +kernel] at h
  exact h
theorem known26 (w : World) : Gives Try.prog 21 #[.agg #[.int .i64 3, .int .i64 4], .int .i64 5] w (.bool true) := by
  have h := near_any 3 4 5 w
  rw [show nearB 3 4 5 = true from by decide +kernel] at h
  exact h
theorem known27 (w : World) : Gives Try.prog 22 #[.agg #[.int .i64 (-10), .int .i64 3], .agg #[.int .i64 10, .int .i64 3], .int .i64 3] w (.bool true) := by
  have h := within_seg (-10) 3 10 3 3 w
  rw [show withinS (-10) 3 10 3 3 = true from by decide +kernel] at h
  exact h
theorem known28 (w : World) : Gives Try.prog 22 #[.agg #[.int .i64 (-10), .int .i64 3], .agg #[.int .i64 10, .int .i64 3], .int .i64 2] w (.bool false) := by
  have h := within_seg (-10) 3 10 3 2 w
  rw [show withinS (-10) 3 10 3 2 = false from by decide +kernel] at h
  exact h
theorem known29 (w : World) : Gives Try.prog 22 #[.agg #[.int .i64 2, .int .i64 3], .agg #[.int .i64 10, .int .i64 3], .int .i64 3] w (.bool false) := by
  have h := within_seg 2 3 10 3 3 w
  rw [show withinS 2 3 10 3 3 = false from by decide +kernel] at h
  exact h
theorem known30 (w : World) : Gives Try.prog 23 #[.agg #[.int .i64 (-1), .int .i64 1], .agg #[.int .i64 1, .int .i64 1]] w (.int .i64 1) := by
  have h := miss_any (-1) 1 1 1 w
  rw [show missV (-1) 1 1 1 = 1 from miss_eq (by decide +kernel) (by omega) (by omega) (by decide +kernel) (.inr (by decide +kernel))] at h
  exact h
theorem known31 (w : World) : Gives Try.prog 24 #[.agg #[.int .i64 (-1), .int .i64 1, .int .i64 (-1), .int .i64 1], .agg #[.int .i64 50, .int .i64 60, .int .i64 0, .int .i64 0], .int .i64 2] w (.bool true) := by
  have h := hits_any (-1, 1, -1, 1) (50, 60, 0, 0) 2 w
  rw [show hitsB (-1, 1, -1, 1) (50, 60, 0, 0) 2 = true from by decide +kernel] at h
  exact h
theorem known32 (w : World) : Gives Try.prog 24 #[.agg #[.int .i64 (-41), .int .i64 (-39), .int .i64 0, .int .i64 1], .agg #[.int .i64 39, .int .i64 41, .int .i64 0, .int .i64 1], .int .i64 2] w (.bool true) := by
  have h := hits_any (-41, -39, 0, 1) (39, 41, 0, 1) 2 w
  rw [show hitsB (-41, -39, 0, 1) (39, 41, 0, 1) 2 = true from by decide +kernel] at h
  exact h
theorem known33 (w : World) : Gives Try.prog 24 #[.agg #[.int .i64 (-1), .int .i64 1, .int .i64 (-2), .int .i64 2], .agg #[.int .i64 50, .int .i64 60, .int .i64 0, .int .i64 0], .int .i64 2] w (.bool false) := by
  have h := hits_any (-1, 1, -2, 2) (50, 60, 0, 0) 2 w
  rw [show hitsB (-1, 1, -2, 2) (50, 60, 0, 0) 2 = false from by decide +kernel] at h
  exact h
theorem known34 (w : World) : Gives Try.prog 26 #[.agg #[.int .i64 5, .int .i64 6, .int .i64 (-9), .int .i64 (-8)], .agg #[.int .i64 5, .int .i64 6, .int .i64 8, .int .i64 9], .int .i64 5] w (.bool false) := by
  have h := clear_any (5, 6, -9, -8) (5, 6, 8, 9) 5 w
  rw [show clearB (5, 6, -9, -8) (5, 6, 8, 9) 5 = false from by decide +kernel] at h
  exact h
theorem known35 (w : World) : Gives Try.prog 26 #[.agg #[.int .i64 (-2), .int .i64 (-1), .int .i64 (-2), .int .i64 2], .agg #[.int .i64 1, .int .i64 2, .int .i64 (-2), .int .i64 2], .int .i64 0] w (.bool false) := by
  have h := clear_any (-2, -1, -2, 2) (1, 2, -2, 2) 0 w
  rw [show clearB (-2, -1, -2, 2) (1, 2, -2, 2) 0 = false from by decide +kernel] at h
  exact h

set_option maxRecDepth 100000 in
set_option maxHeartbeats 100000000 in
theorem known_law (w : World) : Gives Try.prog 3 #[] w (.bool true) := by
  (unfold Gives; go_enter Try.func3, Try.ntmps3)
  go_wp2_with (first | (go_at_call 6; (with_reducible refine (of_any _ _ _).mono ?_); intro _) | (go_at_call 25; (with_reducible refine (area_any _ _ _ _ _).mono ?_); intro _) | (go_at_call 4; (with_reducible refine (awake_any _).mono ?_); intro _) | (go_at_call 5; (with_reducible refine (known0 _).mono ?_); intro _) | (go_at_call 5; (with_reducible refine (known1 _).mono ?_); intro _) | (go_at_call 5; (with_reducible refine (known2 _).mono ?_); intro _) | (go_at_call 7; (with_reducible refine (known3 _).mono ?_); intro _) | (go_at_call 8; (with_reducible refine (known4 _).mono ?_); intro _) | (go_at_call 9; (with_reducible refine (known5 _).mono ?_); intro _) | (go_at_call 9; (with_reducible refine (known6 _).mono ?_); intro _) | (go_at_call 10; (with_reducible refine (known7 _).mono ?_); intro _) | (go_at_call 10; (with_reducible refine (known8 _).mono ?_); intro _) | (go_at_call 11; (with_reducible refine (known9 _).mono ?_); intro _) | (go_at_call 12; (with_reducible refine (known10 _).mono ?_); intro _) | (go_at_call 13; (with_reducible refine (known11 _).mono ?_); intro _) | (go_at_call 14; (with_reducible refine (known12 _).mono ?_); intro _) | (go_at_call 14; (with_reducible refine (known13 _).mono ?_); intro _) | (go_at_call 14; (with_reducible refine (known14 _).mono ?_); intro _) | (go_at_call 15; (with_reducible refine (known15 _).mono ?_); intro _) | (go_at_call 16; (with_reducible refine (known16 _).mono ?_); intro _) | (go_at_call 16; (with_reducible refine (known17 _).mono ?_); intro _) | (go_at_call 16; (with_reducible refine (known18 _).mono ?_); intro _) | (go_at_call 16; (with_reducible refine (known19 _).mono ?_); intro _) | (go_at_call 17; (with_reducible refine (known20 _).mono ?_); intro _) | (go_at_call 18; (with_reducible refine (known21 _).mono ?_); intro _) | (go_at_call 18; (with_reducible refine (known22 _).mono ?_); intro _) | (go_at_call 18; (with_reducible refine (known23 _).mono ?_); intro _) | (go_at_call 19; (with_reducible refine (known24 _).mono ?_); intro _) | (go_at_call 20; (with_reducible refine (known25 _).mono ?_); intro _) | (go_at_call 21; (with_reducible refine (known26 _).mono ?_); intro _) | (go_at_call 22; (with_reducible refine (known27 _).mono ?_); intro _) | (go_at_call 22; (with_reducible refine (known28 _).mono ?_); intro _) | (go_at_call 22; (with_reducible refine (known29 _).mono ?_); intro _) | (go_at_call 23; (with_reducible refine (known30 _).mono ?_); intro _) | (go_at_call 24; (with_reducible refine (known31 _).mono ?_); intro _) | (go_at_call 24; (with_reducible refine (known32 _).mono ?_); intro _) | (go_at_call 24; (with_reducible refine (known33 _).mono ?_); intro _) | (go_at_call 26; (with_reducible refine (known34 _).mono ?_); intro _) | (go_at_call 26; (with_reducible refine (known35 _).mono ?_); intro _))
  iterate 16 (try (((first | with_reducible refine wp_region_ext2 (by kernel_rfl) (by kernel_rfl) ?_ | refine wp_region_ext (by kernel_rfl) (by kernel_rfl) ?_); (repeat (go_big_quiet_step ((first | (go_at_call 6; with_reducible exact Gives.inRegion (of_any _ _ _)) | (go_at_call 25; with_reducible exact Gives.inRegion (area_any _ _ _ _ _)) | (go_at_call 4; with_reducible exact Gives.inRegion (awake_any _)) | (go_at_call 5; with_reducible exact Gives.inRegion (known0 _)) | (go_at_call 5; with_reducible exact Gives.inRegion (known1 _)) | (go_at_call 5; with_reducible exact Gives.inRegion (known2 _)) | (go_at_call 7; with_reducible exact Gives.inRegion (known3 _)) | (go_at_call 8; with_reducible exact Gives.inRegion (known4 _)) | (go_at_call 9; with_reducible exact Gives.inRegion (known5 _)) | (go_at_call 9; with_reducible exact Gives.inRegion (known6 _)) | (go_at_call 10; with_reducible exact Gives.inRegion (known7 _)) | (go_at_call 10; with_reducible exact Gives.inRegion (known8 _)) | (go_at_call 11; with_reducible exact Gives.inRegion (known9 _)) | (go_at_call 12; with_reducible exact Gives.inRegion (known10 _)) | (go_at_call 13; with_reducible exact Gives.inRegion (known11 _)) | (go_at_call 14; with_reducible exact Gives.inRegion (known12 _)) | (go_at_call 14; with_reducible exact Gives.inRegion (known13 _)) | (go_at_call 14; with_reducible exact Gives.inRegion (known14 _)) | (go_at_call 15; with_reducible exact Gives.inRegion (known15 _)) | (go_at_call 16; with_reducible exact Gives.inRegion (known16 _)) | (go_at_call 16; with_reducible exact Gives.inRegion (known17 _)) | (go_at_call 16; with_reducible exact Gives.inRegion (known18 _)) | (go_at_call 16; with_reducible exact Gives.inRegion (known19 _)) | (go_at_call 17; with_reducible exact Gives.inRegion (known20 _)) | (go_at_call 18; with_reducible exact Gives.inRegion (known21 _)) | (go_at_call 18; with_reducible exact Gives.inRegion (known22 _)) | (go_at_call 18; with_reducible exact Gives.inRegion (known23 _)) | (go_at_call 19; with_reducible exact Gives.inRegion (known24 _)) | (go_at_call 20; with_reducible exact Gives.inRegion (known25 _)) | (go_at_call 21; with_reducible exact Gives.inRegion (known26 _)) | (go_at_call 22; with_reducible exact Gives.inRegion (known27 _)) | (go_at_call 22; with_reducible exact Gives.inRegion (known28 _)) | (go_at_call 22; with_reducible exact Gives.inRegion (known29 _)) | (go_at_call 23; with_reducible exact Gives.inRegion (known30 _)) | (go_at_call 24; with_reducible exact Gives.inRegion (known31 _)) | (go_at_call 24; with_reducible exact Gives.inRegion (known32 _)) | (go_at_call 24; with_reducible exact Gives.inRegion (known33 _)) | (go_at_call 26; with_reducible exact Gives.inRegion (known34 _)) | (go_at_call 26; with_reducible exact Gives.inRegion (known35 _)))))); refine wpQuiet_nil ?_; intro _ hw'; obtain ⟨_, hw''⟩ := hw'; subst hw''); go_wp2_with (first | (go_at_call 6; (with_reducible refine (of_any _ _ _).mono ?_); intro _) | (go_at_call 25; (with_reducible refine (area_any _ _ _ _ _).mono ?_); intro _) | (go_at_call 4; (with_reducible refine (awake_any _).mono ?_); intro _) | (go_at_call 5; (with_reducible refine (known0 _).mono ?_); intro _) | (go_at_call 5; (with_reducible refine (known1 _).mono ?_); intro _) | (go_at_call 5; (with_reducible refine (known2 _).mono ?_); intro _) | (go_at_call 7; (with_reducible refine (known3 _).mono ?_); intro _) | (go_at_call 8; (with_reducible refine (known4 _).mono ?_); intro _) | (go_at_call 9; (with_reducible refine (known5 _).mono ?_); intro _) | (go_at_call 9; (with_reducible refine (known6 _).mono ?_); intro _) | (go_at_call 10; (with_reducible refine (known7 _).mono ?_); intro _) | (go_at_call 10; (with_reducible refine (known8 _).mono ?_); intro _) | (go_at_call 11; (with_reducible refine (known9 _).mono ?_); intro _) | (go_at_call 12; (with_reducible refine (known10 _).mono ?_); intro _) | (go_at_call 13; (with_reducible refine (known11 _).mono ?_); intro _) | (go_at_call 14; (with_reducible refine (known12 _).mono ?_); intro _) | (go_at_call 14; (with_reducible refine (known13 _).mono ?_); intro _) | (go_at_call 14; (with_reducible refine (known14 _).mono ?_); intro _) | (go_at_call 15; (with_reducible refine (known15 _).mono ?_); intro _) | (go_at_call 16; (with_reducible refine (known16 _).mono ?_); intro _) | (go_at_call 16; (with_reducible refine (known17 _).mono ?_); intro _) | (go_at_call 16; (with_reducible refine (known18 _).mono ?_); intro _) | (go_at_call 16; (with_reducible refine (known19 _).mono ?_); intro _) | (go_at_call 17; (with_reducible refine (known20 _).mono ?_); intro _) | (go_at_call 18; (with_reducible refine (known21 _).mono ?_); intro _) | (go_at_call 18; (with_reducible refine (known22 _).mono ?_); intro _) | (go_at_call 18; (with_reducible refine (known23 _).mono ?_); intro _) | (go_at_call 19; (with_reducible refine (known24 _).mono ?_); intro _) | (go_at_call 20; (with_reducible refine (known25 _).mono ?_); intro _) | (go_at_call 21; (with_reducible refine (known26 _).mono ?_); intro _) | (go_at_call 22; (with_reducible refine (known27 _).mono ?_); intro _) | (go_at_call 22; (with_reducible refine (known28 _).mono ?_); intro _) | (go_at_call 22; (with_reducible refine (known29 _).mono ?_); intro _) | (go_at_call 23; (with_reducible refine (known30 _).mono ?_); intro _) | (go_at_call 24; (with_reducible refine (known31 _).mono ?_); intro _) | (go_at_call 24; (with_reducible refine (known32 _).mono ?_); intro _) | (go_at_call 24; (with_reducible refine (known33 _).mono ?_); intro _) | (go_at_call 26; (with_reducible refine (known34 _).mono ?_); intro _) | (go_at_call 26; (with_reducible refine (known35 _).mono ?_); intro _))))
  all_goals go_ret
  all_goals exact ⟨rfl, (by repeat (first | with_reducible exact Up.refl _ | apply Up.ext | apply Up.alloc | apply Up.drew | (refine Up.setCell ?_ (by simp; try omega) _)))⟩

set_option maxRecDepth 100000 in
theorem known_lifted (os : Os) (started : os.Started) (H : Type) (enc : TypeId × Value → H) :
    ReturnsInHanded {} Try.checked os 3 .any (Rows.spanKnownSpec.pre6 enc Try.prog Try.f3 Rows.spanKnownRow.domain false) (Rows.spanKnownSpec.post enc Try.prog Try.f3 false true false false) := by
  refine returnsInHanded_of_change (C := Try.checked) knob_own started (by kernel_rfl) Try.func3
    (ChangeSpec.witness6 (enc := enc) (C := Try.checked) false ⟨#[], #[], []⟩ 8 (by kernel_rfl) (by kernel_rfl) (by kernel_rfl) (by kernel_rfl)) ?_
  intro W base args ds gs before hval0 hW _ _
  have hval : ∀ (j : Nat) t v, Try.f3.params[j]? = some t → args[j]? = some v → Value.okWide Try.prog W .any base t v := hval0
  have hW' := hW
  obtain ⟨p, q, hA0, hV, rfl, _, _⟩ := hW
  have hA : DataW.TrodAll enc Try.prog W 0 (fun _ => true) true Try.f3.params.toList args.toList ds p := hA0
  rw [Try.params3] at hA hval
  obtain ⟨hargs, rfl, rfl⟩ := trodAll_nil hA
  obtain rfl : args = #[] := by cases args; simp_all
  obtain ⟨rfl, rfl⟩ := trodVars_none hV
  clear hA0 hval0
  simp only [List.append_nil] at hW'
  refine (known_law  W).mono fun px => ?_
  exact ⟨_, rfl, post_of_below (pa := []) (pv := []) hW' (fun _ _ _ => (trodAll_cons_mk (shut_bool Try.underlying4 _) trodAll_mk0)) (fun sp hsp => trodAll_mk0) (fun _ _ => rfl) (by simp)
    (Up.below ⟨px, rfl⟩) (ok_one (by kernel_rfl) rfl (okWide_bool_mk Try.underlying4 _))⟩

theorem known_holds : Rows.SpanKnownSaid :=
  OpenClaim.holds_of_wide 3 Try.f3 rfl rfl rfl rfl rfl rfl rfl ⟨rfl, rfl, rfl, rfl, rfl⟩ rfl rfl rfl rfl rfl (by kernel_rfl) Try.func3 (by kernel_rfl)
    (of_decide_eq_true (by kernel_rfl)) (by unfold Func.isWrapper; rw [if_neg (by decide +kernel)]; exact ⟨rfl, rfl⟩)
    (fun os started H enc _ => known_lifted os started H enc)
#print axioms known_holds
end Go.Proofs.Ytfpdnmfklmgmfab
