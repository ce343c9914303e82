/- SpanChecks returns true for every input: which spans and areas are valid, what is in them, their hull, what they have in common, and their halves are what the document says. No conditions. -/
import Derived.Test.YtfpdnmfklmgmfaaPostb
import Derived.Test.YtfpdnmfklmgmfaaRefS
import Derived.JoinedOf
import Derived.JoinedAt
import Derived.ChangeSame
import Derived.OpenShut
namespace Go.Proofs.Ytfpdnmfklmgmfaa
open Go.RowKit Go.ChangeShapes Go.WideShapes Go.ChangeAt Go.Joins

theorem checks_law (a b c d n x y z u : Int) (w : World) :
    Gives Try.prog 9 #[.agg #[.int .i64 a, .int .i64 b], .agg #[.int .i64 c, .int .i64 d], .int .i64 n, .agg #[.int .i64 x, .int .i64 y, .int .i64 z, .int .i64 u]] w (.bool true) := by
  (unfold Gives; go_enter Try.func9, Try.ntmps9)
  go_wp2_with (first | (go_at_call 35; (with_reducible refine (meet_any _ _ _ _ _).mono ?_); intro _) | (go_at_call 36; (with_reducible refine (rmeet_any _ _ _ _ _).mono ?_); intro _) | (go_at_call 37; (with_reducible refine (split_any _ _ _).mono ?_); intro _) | (go_at_call 38; (with_reducible refine (rsplit_any _ _ _).mono ?_); intro _) | (go_at_call 39; (with_reducible refine (check_any _ _ _).mono ?_); intro _) | (go_at_call 40; (with_reducible refine (rcheck_any _ _ _).mono ?_); intro _))
  ((first | with_reducible refine wp_region_ext2 (by kernel_rfl) (by kernel_rfl) ?_ | refine wp_region_ext (by kernel_rfl) (by kernel_rfl) ?_); (repeat (go_big_quiet_step ((first | (go_at_call 39; with_reducible exact Gives.inRegion (check_any _ _ _)) | (go_at_call 40; with_reducible exact Gives.inRegion (rcheck_any _ _ _)) | (go_at_call 41; with_reducible exact Gives.inRegion (in_any _ _ _ _)) | (go_at_call 42; with_reducible exact Gives.inRegion (rin_any _ _ _ _)) | (go_at_call 43; with_reducible exact Gives.inRegion (inside_any _ _ _ _ _)) | (go_at_call 44; with_reducible exact Gives.inRegion (rinside_any _ _ _ _ _)) | (go_at_call 45; with_reducible exact Gives.inRegion (hull_any _ _ _ _ _)) | (go_at_call 46; with_reducible exact Gives.inRegion (rhull_any _ _ _ _ _)) | (go_at_call 47; with_reducible exact Gives.inRegion (checkarea_any _ _ _ _ _)) | (go_at_call 48; with_reducible exact Gives.inRegion (rcheckarea_any _ _ _ _ _)) | (go_at_call 23; with_reducible exact Gives.inRegion (awake_any _)))))); refine wpQuiet_nil ?_; intro _ hw'; obtain ⟨_, hw''⟩ := hw'; subst hw'')
  go_wp2
  ((first | with_reducible refine wp_region_ext2 (by kernel_rfl) (by kernel_rfl) ?_ | refine wp_region_ext (by kernel_rfl) (by kernel_rfl) ?_); (repeat (go_big_quiet_step ((first | (go_at_call 39; with_reducible exact Gives.inRegion (check_any _ _ _)) | (go_at_call 40; with_reducible exact Gives.inRegion (rcheck_any _ _ _)) | (go_at_call 41; with_reducible exact Gives.inRegion (in_any _ _ _ _)) | (go_at_call 42; with_reducible exact Gives.inRegion (rin_any _ _ _ _)) | (go_at_call 43; with_reducible exact Gives.inRegion (inside_any _ _ _ _ _)) | (go_at_call 44; with_reducible exact Gives.inRegion (rinside_any _ _ _ _ _)) | (go_at_call 45; with_reducible exact Gives.inRegion (hull_any _ _ _ _ _)) | (go_at_call 46; with_reducible exact Gives.inRegion (rhull_any _ _ _ _ _)) | (go_at_call 47; with_reducible exact Gives.inRegion (checkarea_any _ _ _ _ _)) | (go_at_call 48; with_reducible exact Gives.inRegion (rcheckarea_any _ _ _ _ _)) | (go_at_call 23; with_reducible exact Gives.inRegion (awake_any _)))))); refine wpQuiet_nil ?_; intro _ hw'; obtain ⟨_, hw''⟩ := hw'; subst hw'')
  go_wp2
  go_ret
  exact ⟨rfl, (by repeat (first | with_reducible exact Up.refl _ | apply Up.ext | apply Up.alloc | apply Up.drew | (refine Up.setCell ?_ (by simp; try omega) _)))⟩

set_option maxRecDepth 100000 in
theorem checks_lifted (os : Os) (started : os.Started) (H : Type) (enc : TypeId × Value → H) :
    ReturnsInHanded {} Try.checked os 9 .any (Rows.spanChecksSpec.pre6 enc Try.prog Try.f9 Rows.spanChecksRow.domain false) (Rows.spanChecksSpec.post enc Try.prog Try.f9 false true false false) := by
  refine returnsInHanded_of_change (C := Try.checked) knob_own started (by kernel_rfl) Try.func9
    (ChangeSpec.witness6 (enc := enc) (C := Try.checked) false ⟨#[], #[.agg #[.int .i64 0, .int .i64 0], .agg #[.int .i64 0, .int .i64 0], .int .i64 0, .agg #[.int .i64 0, .int .i64 0, .int .i64 0, .int .i64 0]], []⟩ 8 (by kernel_rfl) (by kernel_rfl) (by kernel_rfl) (by kernel_rfl)) ?_
  intro W base args ds gs before hval0 hW _ _
  have hval : ∀ (j : Nat) t v, Try.f9.params[j]? = some t → args[j]? = some v → Value.okWide Try.prog W .any base t v := hval0
  have hW' := hW
  obtain ⟨p, q, hA0, hV, rfl, _, _⟩ := hW
  have hA : DataW.TrodAll enc Try.prog W 0 (fun _ => true) true Try.f9.params.toList args.toList ds p := hA0
  rw [Try.params9] at hA hval
  obtain ⟨v0, vs0, d0, ds0, p0, q0, hargs, rfl, rfl, h0, r0⟩ := trodAll_cons hA
  obtain ⟨v1, vs1, d1, ds1, p1, q1, rfl, rfl, rfl, h1, r1⟩ := trodAll_cons r0
  obtain ⟨v2, vs2, d2, ds2, p2, q2, rfl, rfl, rfl, h2, r2⟩ := trodAll_cons r1
  obtain ⟨v3, vs3, d3, ds3, p3, q3, rfl, rfl, rfl, h3, r3⟩ := trodAll_cons r2
  obtain ⟨rfl, rfl, rfl⟩ := trodAll_nil r3
  obtain rfl : args = #[v0, v1, v2, v3] := by cases args; simp_all
  obtain ⟨rfl, rfl⟩ := trodVars_none hV
  obtain ⟨x0, y0, rfl, rfl, rfl, wx0, wy0⟩ := open_span (hval 0 34 v0 rfl rfl) h0
  obtain ⟨x1, y1, rfl, rfl, rfl, wx1, wy1⟩ := open_span (hval 1 34 v1 rfl rfl) h1
  obtain ⟨a2, rfl, rfl, rfl, w2⟩ := open_int Try.underlying2 (hval 2 2 v2 rfl rfl) h2
  obtain ⟨x3, y3, z3, u3, rfl, rfl, rfl, wx3, wy3, wz3, wu3⟩ := open_area (hval 3 44 v3 rfl rfl) h3
  clear hA0 hval0
  simp only [List.append_nil] at hW'
  refine (checks_law x0 y0 x1 y1 a2 x3 y3 z3 u3 W).mono fun px => ?_
  exact ⟨_, rfl, post_of_below (pa := []) (pv := []) hW' (fun _ _ _ => (trodAll_cons_mk (shut_bool Try.underlying4 _) trodAll_mk0)) (fun sp _ => (trodAll_cons_mk (shut_span wx0 wy0) (trodAll_cons_mk (shut_span wx1 wy1) (trodAll_cons_mk (shut_int Try.underlying2 w2) (trodAll_cons_mk (shut_area wx3 wy3 wz3 wu3) trodAll_mk0))))) (fun _ _ => rfl) rfl
    (Up.below ⟨px, rfl⟩) (ok_one (by kernel_rfl) rfl (okWide_bool_mk Try.underlying4 _))⟩

theorem checks_holds : Rows.SpanChecksSaid :=
  OpenClaim.holds_of_wide 9 Try.f9 rfl rfl rfl rfl rfl rfl rfl ⟨rfl, rfl, rfl, rfl, rfl⟩ rfl rfl rfl rfl rfl (by kernel_rfl) Try.func9 (by kernel_rfl)
    (of_decide_eq_true (by kernel_rfl)) (by unfold Func.isWrapper; rw [if_neg (by decide +kernel)]; exact ⟨rfl, rfl⟩)
    (fun os started H enc _ => checks_lifted os started H enc)
#print axioms checks_holds
end Go.Proofs.Ytfpdnmfklmgmfaa
