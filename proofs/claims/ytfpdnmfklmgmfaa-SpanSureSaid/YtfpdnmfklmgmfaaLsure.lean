/- SpanSure returns true for every input: whether all segments between two areas surely come within r, or surely do not, is what the document says. No conditions. -/
import Derived.Test.YtfpdnmfklmgmfaaPostb
import Derived.Test.YtfpdnmfklmgmfaaRefI
import Derived.Test.YtfpdnmfklmgmfaaRefM
import Derived.JoinedOf
import Derived.JoinedAt
import Derived.ChangeSame
import Derived.OpenShut
namespace Go.Proofs.Ytfpdnmfklmgmfaa
open Go.RowKit Go.ChangeShapes Go.WideShapes Go.ChangeAt Go.Joins

theorem sure_law (x0 x1 y0 y1 u0 u1 v0 v1 r : Int) (w : World) :
    Gives Try.prog 13 #[.agg #[.int .i64 x0, .int .i64 x1, .int .i64 y0, .int .i64 y1], .agg #[.int .i64 u0, .int .i64 u1, .int .i64 v0, .int .i64 v1], .int .i64 r] w (.bool true) := by
  have K1 := hide (fun W => hits_any (x0, x1, y0, y1) (u0, u1, v0, v1) r W)
  have K2 := hide (fun W => rhits_any (x0, x1, y0, y1) (u0, u1, v0, v1) r W)
  have K3 := hide (fun W => clear_any (x0, x1, y0, y1) (u0, u1, v0, v1) r W)
  have K4 := hide (fun W => rclear_any (x0, x1, y0, y1) (u0, u1, v0, v1) r W)
  generalize hitsB (x0, x1, y0, y1) (u0, u1, v0, v1) r = h at *
  generalize clearB (x0, x1, y0, y1) (u0, u1, v0, v1) r = c at *
  simp only at K1 K2 K3 K4
  (unfold Gives; go_enter Try.func13, Try.ntmps13)
  go_wp2_with (first | (go_at_call 63; (with_reducible refine (K1.out _).mono ?_); intro _) | (go_at_call 64; (with_reducible refine (K2.out _).mono ?_); intro _) | (go_at_call 65; (with_reducible refine (K3.out _).mono ?_); intro _) | (go_at_call 66; (with_reducible refine (K4.out _).mono ?_); intro _) | (go_at_call 23; (with_reducible refine (awake_any _).mono ?_); intro _))
  all_goals ((first | with_reducible refine wp_region_ext2 (by kernel_rfl) (by kernel_rfl) ?_ | refine wp_region_ext (by kernel_rfl) (by kernel_rfl) ?_); (repeat (go_big_quiet_step ((first | (go_at_call 63; with_reducible exact Gives.inRegion (K1.out _)) | (go_at_call 64; with_reducible exact Gives.inRegion (K2.out _)) | (go_at_call 65; with_reducible exact Gives.inRegion (K3.out _)) | (go_at_call 66; with_reducible exact Gives.inRegion (K4.out _)) | (go_at_call 23; with_reducible exact Gives.inRegion (awake_any _)))))); refine wpQuiet_nil ?_; intro _ hw'; obtain ⟨_, hw''⟩ := hw'; subst hw'')
  all_goals go_wp2
  all_goals go_ret
  all_goals exact ⟨rfl, (by repeat (first | with_reducible exact Up.refl _ | apply Up.ext | apply Up.alloc | apply Up.drew | (refine Up.setCell ?_ (by simp; try omega) _)))⟩

set_option maxRecDepth 100000 in
theorem sure_lifted (os : Os) (started : os.Started) (H : Type) (enc : TypeId × Value → H) :
    ReturnsInHanded {} Try.checked os 13 .any (Rows.spanSureSpec.pre6 enc Try.prog Try.f13 Rows.spanSureRow.domain false) (Rows.spanSureSpec.post enc Try.prog Try.f13 false true false false) := by
  refine returnsInHanded_of_change (C := Try.checked) knob_own started (by kernel_rfl) Try.func13
    (ChangeSpec.witness6 (enc := enc) (C := Try.checked) false ⟨#[], #[.agg #[.int .i64 0, .int .i64 0, .int .i64 0, .int .i64 0], .agg #[.int .i64 0, .int .i64 0, .int .i64 0, .int .i64 0], .int .i64 0], []⟩ 8 (by kernel_rfl) (by kernel_rfl) (by kernel_rfl) (by kernel_rfl)) ?_
  intro W base args ds gs before hval0 hW _ _
  have hval : ∀ (j : Nat) t v, Try.f13.params[j]? = some t → args[j]? = some v → Value.okWide Try.prog W .any base t v := hval0
  have hW' := hW
  obtain ⟨p, q, hA0, hV, rfl, _, _⟩ := hW
  have hA : DataW.TrodAll enc Try.prog W 0 (fun _ => true) true Try.f13.params.toList args.toList ds p := hA0
  rw [Try.params13] at hA hval
  obtain ⟨v0, vs0, d0, ds0, p0, q0, hargs, rfl, rfl, h0, r0⟩ := trodAll_cons hA
  obtain ⟨v1, vs1, d1, ds1, p1, q1, rfl, rfl, rfl, h1, r1⟩ := trodAll_cons r0
  obtain ⟨v2, vs2, d2, ds2, p2, q2, rfl, rfl, rfl, h2, r2⟩ := trodAll_cons r1
  obtain ⟨rfl, rfl, rfl⟩ := trodAll_nil r2
  obtain rfl : args = #[v0, v1, v2] := by cases args; simp_all
  obtain ⟨rfl, rfl⟩ := trodVars_none hV
  obtain ⟨x0, y0, z0, u0, rfl, rfl, rfl, wx0, wy0, wz0, wu0⟩ := open_area (hval 0 44 v0 rfl rfl) h0
  obtain ⟨x1, y1, z1, u1, rfl, rfl, rfl, wx1, wy1, wz1, wu1⟩ := open_area (hval 1 44 v1 rfl rfl) h1
  obtain ⟨a2, rfl, rfl, rfl, w2⟩ := open_int Try.underlying2 (hval 2 2 v2 rfl rfl) h2
  clear hA0 hval0
  simp only [List.append_nil] at hW'
  refine (sure_law x0 y0 z0 u0 x1 y1 z1 u1 a2 W).mono fun px => ?_
  exact ⟨_, rfl, post_of_below (pa := []) (pv := []) hW' (fun _ _ _ => (trodAll_cons_mk (shut_bool Try.underlying4 _) trodAll_mk0)) (fun sp _ => (trodAll_cons_mk (shut_area wx0 wy0 wz0 wu0) (trodAll_cons_mk (shut_area wx1 wy1 wz1 wu1) (trodAll_cons_mk (shut_int Try.underlying2 w2) trodAll_mk0)))) (fun _ _ => rfl) rfl
    (Up.below ⟨px, rfl⟩) (ok_one (by kernel_rfl) rfl (okWide_bool_mk Try.underlying4 _))⟩

theorem sure_holds : Rows.SpanSureSaid :=
  OpenClaim.holds_of_wide 13 Try.f13 rfl rfl rfl rfl rfl rfl rfl ⟨rfl, rfl, rfl, rfl, rfl⟩ rfl rfl rfl rfl rfl (by kernel_rfl) Try.func13 (by kernel_rfl)
    (of_decide_eq_true (by kernel_rfl)) (by unfold Func.isWrapper; rw [if_neg (by decide +kernel)]; exact ⟨rfl, rfl⟩)
    (fun os started H enc _ => sure_lifted os started H enc)
#print axioms sure_holds
end Go.Proofs.Ytfpdnmfklmgmfaa
