/- SpanTurns returns true for every input: vectors that are turned. No conditions. -/
import Derived.Test.YtfpdnmfklmgmfaaPost
import Derived.Test.YtfpdnmfklmgmfaaSigns
import Derived.JoinedOf
import Derived.JoinedAt
import Derived.ChangeSame
import Derived.OpenShut
namespace Go.Proofs.Ytfpdnmfklmgmfaa
open Go.RowKit Go.ChangeShapes Go.WideShapes Go.ChangeAt Go.Joins

theorem sgnI_neg (x : Int) : sgnI (-x) = -sgnI x := by unfold sgnI; (repeat' split) <;> omega

set_option maxHeartbeats 2000000 in
theorem turns_law (a b c d : Int) (ha : -9223372036854775808 ≤ a ∧ a ≤ 9223372036854775807) (hb : -9223372036854775808 ≤ b ∧ b ≤ 9223372036854775807) (hc : -9223372036854775808 ≤ c ∧ c ≤ 9223372036854775807) (hd : -9223372036854775808 ≤ d ∧ d ≤ 9223372036854775807) (w : World) :
    Gives Try.prog 6 #[.agg #[.int .i64 a, .int .i64 b], .agg #[.int .i64 c, .int .i64 d]] w (.bool true) := by
  by_cases hl : a = -9223372036854775808 ∨ b = -9223372036854775808 ∨ c = -9223372036854775808 ∨ d = -9223372036854775808
  · have h1 : (decide (a = -9223372036854775808) || (decide (b = -9223372036854775808) || (decide (c = -9223372036854775808) || decide (d = -9223372036854775808)))) = true := by simpa using hl
    (unfold Gives; go_enter Try.func6, Try.ntmps6)
    go_wp2_with (go_at_call 23; refine (awake_any _).mono ?_; intro _)
    all_goals first | (go_ret; exact ⟨rfl, (by repeat (first | with_reducible exact Up.refl _ | apply Up.ext | apply Up.alloc | apply Up.drew | (refine Up.setCell ?_ (by simp; try omega) _)))⟩) | (exfalso; simp_all)
  · have h1 : ((a == -9223372036854775808) = false) := by simp; omega
    have h2 : ((b == -9223372036854775808) = false) := by simp; omega
    have h3 : ((c == -9223372036854775808) = false) := by simp; omega
    have h4 : ((d == -9223372036854775808) = false) := by simp; omega
    have hna : -9223372036854775807 ≤ a := by omega
    have hnb : -9223372036854775807 ≤ b := by omega
    have hnc : -9223372036854775807 ≤ c := by omega
    have hnd : -9223372036854775807 ≤ d := by omega
    clear hl
    obtain ⟨k, hk⟩ : ∃ k, sgnI (a * d - b * c) = k := ⟨_, rfl⟩
    obtain ⟨m, hm⟩ : ∃ m, sgnI (a * c + b * d) = m := ⟨_, rfl⟩
    have K1 : Hid (∀ w, Gives Try.prog 26 #[.agg #[.int .i64 a, .int .i64 b], .agg #[.int .i64 c, .int .i64 d]] w (.int .i64 k)) := hide fun w => by
      rw [← hk]; exact cross_sgn _ _ _ _ (by omega) (by omega) (by omega) (by omega) (by omega) (by omega) (by omega) (by omega) w
    have K2 : Hid (∀ w, Gives Try.prog 26 #[.agg #[.int .i64 c, .int .i64 d], .agg #[.int .i64 a, .int .i64 b]] w (.int .i64 (-k))) := hide fun w => by
      rw [← hk, ← sgnI_neg, show -(a * d - b * c) = c * b - d * a by grind]; exact cross_sgn _ _ _ _ (by omega) (by omega) (by omega) (by omega) (by omega) (by omega) (by omega) (by omega) w
    have K3 : Hid (∀ w, Gives Try.prog 28 #[.agg #[.int .i64 a, .int .i64 b], .agg #[.int .i64 c, .int .i64 d]] w (.int .i64 m)) := hide fun w => by
      rw [← hm]; exact dot_sgn _ _ _ _ (by omega) (by omega) (by omega) (by omega) (by omega) (by omega) (by omega) (by omega) w
    have K4 : Hid (∀ w, Gives Try.prog 28 #[.agg #[.int .i64 c, .int .i64 d], .agg #[.int .i64 a, .int .i64 b]] w (.int .i64 m)) := hide fun w => by
      rw [← hm, show a * c + b * d = c * a + d * b by grind]; exact dot_sgn _ _ _ _ (by omega) (by omega) (by omega) (by omega) (by omega) (by omega) (by omega) (by omega) w
    have K5 : Hid (∀ w, Gives Try.prog 26 #[.agg #[.int .i64 (-b), .int .i64 a], .agg #[.int .i64 (-d), .int .i64 c]] w (.int .i64 k)) := hide fun w => by
      rw [← hk, show a * d - b * c = -b * c - a * -d by grind]; exact cross_sgn _ _ _ _ (by omega) (by omega) (by omega) (by omega) (by omega) (by omega) (by omega) (by omega) w
    have K6 : Hid (∀ w, Gives Try.prog 28 #[.agg #[.int .i64 (-b), .int .i64 a], .agg #[.int .i64 (-d), .int .i64 c]] w (.int .i64 m)) := hide fun w => by
      rw [← hm, show a * c + b * d = -b * -d + a * c by grind]; exact dot_sgn _ _ _ _ (by omega) (by omega) (by omega) (by omega) (by omega) (by omega) (by omega) (by omega) w
    have K7 : Hid (∀ w, Gives Try.prog 28 #[.agg #[.int .i64 (-b), .int .i64 a], .agg #[.int .i64 c, .int .i64 d]] w (.int .i64 k)) := hide fun w => by
      rw [← hk, show a * d - b * c = -b * c + a * d by grind]; exact dot_sgn _ _ _ _ (by omega) (by omega) (by omega) (by omega) (by omega) (by omega) (by omega) (by omega) w
    have K8 : Hid (∀ w, Gives Try.prog 26 #[.agg #[.int .i64 a, .int .i64 b], .agg #[.int .i64 a, .int .i64 b]] w (.int .i64 0)) := hide fun w => by
      have e : (0 : Int) = sgnI (a * b - b * a) := by rw [show a * b - b * a = 0 by grind]; rfl
      rw [e]; exact cross_sgn _ _ _ _ (by omega) (by omega) (by omega) (by omega) (by omega) (by omega) (by omega) (by omega) w
    obtain ⟨k0, k1⟩ : -1 ≤ k ∧ k ≤ 1 := by rw [← hk]; exact sgnI_bd _
    clear hk hm
    (unfold Gives; go_enter Try.func6, Try.ntmps6)
    go_wp2
    go_region
    all_goals go_wp2
    all_goals ((first | with_reducible refine wp_region_ext2 (by kernel_rfl) (by kernel_rfl) ?_ | refine wp_region_ext (by kernel_rfl) (by kernel_rfl) ?_); (repeat (go_big_quiet_step ((first | (go_at_call 26; with_reducible exact Gives.inRegion (K1.out _)) | (go_at_call 26; with_reducible exact Gives.inRegion (K2.out _)) | (go_at_call 28; with_reducible exact Gives.inRegion (K3.out _)) | (go_at_call 28; with_reducible exact Gives.inRegion (K4.out _)) | (go_at_call 26; with_reducible exact Gives.inRegion (K5.out _)) | (go_at_call 28; with_reducible exact Gives.inRegion (K6.out _)) | (go_at_call 28; with_reducible exact Gives.inRegion (K7.out _)) | (go_at_call 26; with_reducible exact Gives.inRegion (K8.out _)))))); refine wpQuiet_nil ?_; intro _ hw'; obtain ⟨_, hw''⟩ := hw'; subst hw'')
    all_goals go_wp2
    all_goals ((first | with_reducible refine wp_region_ext2 (by kernel_rfl) (by kernel_rfl) ?_ | refine wp_region_ext (by kernel_rfl) (by kernel_rfl) ?_); (repeat (go_big_quiet_step ((first | (go_at_call 26; with_reducible exact Gives.inRegion (K1.out _)) | (go_at_call 28; with_reducible exact Gives.inRegion (K7.out _)) | (go_at_call 26; with_reducible exact Gives.inRegion (K8.out _)) | (go_at_call 23; exact Gives.inRegion (awake_any _)))))); refine wpQuiet_nil ?_; intro _ hw'; obtain ⟨_, hw''⟩ := hw'; subst hw'')
    all_goals go_wp2
    all_goals go_ret
    all_goals exact ⟨rfl, (by repeat (first | with_reducible exact Up.refl _ | apply Up.ext | apply Up.alloc | apply Up.drew | (refine Up.setCell ?_ (by simp; try omega) _)))⟩

set_option maxRecDepth 100000 in
theorem turns_lifted (os : Os) (started : os.Started) (H : Type) (enc : TypeId × Value → H) :
    ReturnsInHanded {} Try.checked os 6 .any (Rows.spanTurnsSpec.pre6 enc Try.prog Try.f6 Rows.spanTurnsRow.domain false) (Rows.spanTurnsSpec.post enc Try.prog Try.f6 false true false false) := by
  refine returnsInHanded_of_change (C := Try.checked) knob_own started (by kernel_rfl) Try.func6
    (ChangeSpec.witness6 (enc := enc) (C := Try.checked) false ⟨#[], #[.agg #[.int .i64 0, .int .i64 0], .agg #[.int .i64 0, .int .i64 0]], []⟩ 8 (by kernel_rfl) (by kernel_rfl) (by kernel_rfl) (by kernel_rfl)) ?_
  intro W base args ds gs before hval0 hW _ _
  have hval : ∀ (j : Nat) t v, Try.f6.params[j]? = some t → args[j]? = some v → Value.okWide Try.prog W .any base t v := hval0
  have hW' := hW
  obtain ⟨p, q, hA0, hV, rfl, _, _⟩ := hW
  have hA : DataW.TrodAll enc Try.prog W 0 (fun _ => true) true Try.f6.params.toList args.toList ds p := hA0
  rw [Try.params6] at hA hval
  obtain ⟨v0, vs0, d0, ds0, p0, q0, hargs, rfl, rfl, h0, r0⟩ := trodAll_cons hA
  obtain ⟨v1, vs1, d1, ds1, p1, q1, rfl, rfl, rfl, h1, r1⟩ := trodAll_cons r0
  obtain ⟨rfl, rfl, rfl⟩ := trodAll_nil r1
  obtain rfl : args = #[v0, v1] := by cases args; simp_all
  obtain ⟨rfl, rfl⟩ := trodVars_none hV
  obtain ⟨x0, y0, rfl, rfl, rfl, wx0, wy0⟩ := open_vec (hval 0 23 v0 rfl rfl) h0
  obtain ⟨x1, y1, rfl, rfl, rfl, wx1, wy1⟩ := open_vec (hval 1 23 v1 rfl rfl) h1
  clear hA0 hval0
  simp only [List.append_nil] at hW'
  refine (turns_law x0 y0 x1 y1 (i64_bds wx0) (i64_bds wy0) (i64_bds wx1) (i64_bds wy1) W).mono fun px => ?_
  exact ⟨_, rfl, post_of_below (pa := []) (pv := []) hW' (fun _ _ _ => (trodAll_cons_mk (shut_bool Try.underlying4 _) trodAll_mk0)) (fun sp _ => (trodAll_cons_mk (shut_vec wx0 wy0) (trodAll_cons_mk (shut_vec wx1 wy1) trodAll_mk0))) (fun _ _ => rfl) rfl
    (Up.below ⟨px, rfl⟩) (ok_one (by kernel_rfl) rfl (okWide_bool_mk Try.underlying4 _))⟩

theorem turns_holds : Rows.SpanTurnsSaid :=
  OpenClaim.holds_of_wide 6 Try.f6 rfl rfl rfl rfl rfl rfl rfl ⟨rfl, rfl, rfl, rfl, rfl⟩ rfl rfl rfl rfl rfl (by kernel_rfl) Try.func6 (by kernel_rfl)
    (of_decide_eq_true (by kernel_rfl)) (by unfold Func.isWrapper; rw [if_neg (by decide +kernel)]; exact ⟨rfl, rfl⟩)
    (fun os started H enc _ => turns_lifted os started H enc)
#print axioms turns_holds
end Go.Proofs.Ytfpdnmfklmgmfaa
