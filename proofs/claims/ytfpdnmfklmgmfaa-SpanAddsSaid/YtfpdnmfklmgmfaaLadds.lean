/- SpanAdds returns true for every input: sums, differences, products and squares of spans, or which error there is, are what the document says. No conditions. -/
import Derived.Test.YtfpdnmfklmgmfaaPostb
import Derived.Test.YtfpdnmfklmgmfaaRefD
import Derived.JoinedOf
import Derived.JoinedAt
import Derived.ChangeSame
import Derived.OpenShut
namespace Go.Proofs.Ytfpdnmfklmgmfaa
open Go.RowKit Go.ChangeShapes Go.WideShapes Go.ChangeAt Go.Joins

theorem adds_law (a b c d : Int) (w : World) :
    Gives Try.prog 11 #[.agg #[.int .i64 a, .int .i64 b], .agg #[.int .i64 c, .int .i64 d]] w (.bool true) := by
  (unfold Gives; go_enter Try.func11, Try.ntmps11)
  go_wp2_with (first | (go_at_call 52; (with_reducible refine (add_any _ _ _ _ _).mono ?_); intro _) | (go_at_call 53; (with_reducible refine (radd_any _ _ _ _ _).mono ?_); intro _) | (go_at_call 54; (with_reducible refine (sub_any _ _ _ _ _).mono ?_); intro _) | (go_at_call 55; (with_reducible refine (rsub_any _ _ _ _ _).mono ?_); intro _) | (go_at_call 56; (with_reducible refine (mul_any _ _ _ _ _).mono ?_); intro _) | (go_at_call 57; (with_reducible refine (rmul_any _ _ _ _ _).mono ?_); intro _) | (go_at_call 58; (with_reducible refine (square_any _ _ _).mono ?_); intro _) | (go_at_call 59; (with_reducible refine (rsquareS_any _ _ _).mono ?_); intro _) | (go_at_call 23; (with_reducible refine (awake_any _).mono ?_); intro _))
  all_goals go_ret
  all_goals exact ⟨rfl, (by repeat (first | with_reducible exact Up.refl _ | apply Up.ext | apply Up.alloc | apply Up.drew | (refine Up.setCell ?_ (by simp; try omega) _)))⟩

set_option maxRecDepth 100000 in
theorem adds_lifted (os : Os) (started : os.Started) (H : Type) (enc : TypeId × Value → H) :
    ReturnsInHanded {} Try.checked os 11 .any (Rows.spanAddsSpec.pre6 enc Try.prog Try.f11 Rows.spanAddsRow.domain false) (Rows.spanAddsSpec.post enc Try.prog Try.f11 false true false false) := by
  refine returnsInHanded_of_change (C := Try.checked) knob_own started (by kernel_rfl) Try.func11
    (ChangeSpec.witness6 (enc := enc) (C := Try.checked) false ⟨#[], #[.agg #[.int .i64 0, .int .i64 0], .agg #[.int .i64 0, .int .i64 0]], []⟩ 8 (by kernel_rfl) (by kernel_rfl) (by kernel_rfl) (by kernel_rfl)) ?_
  intro W base args ds gs before hval0 hW _ _
  have hval : ∀ (j : Nat) t v, Try.f11.params[j]? = some t → args[j]? = some v → Value.okWide Try.prog W .any base t v := hval0
  have hW' := hW
  obtain ⟨p, q, hA0, hV, rfl, _, _⟩ := hW
  have hA : DataW.TrodAll enc Try.prog W 0 (fun _ => true) true Try.f11.params.toList args.toList ds p := hA0
  rw [Try.params11] at hA hval
  obtain ⟨v0, vs0, d0, ds0, p0, q0, hargs, rfl, rfl, h0, r0⟩ := trodAll_cons hA
  obtain ⟨v1, vs1, d1, ds1, p1, q1, rfl, rfl, rfl, h1, r1⟩ := trodAll_cons r0
  obtain ⟨rfl, rfl, rfl⟩ := trodAll_nil r1
  obtain rfl : args = #[v0, v1] := by cases args; simp_all
  obtain ⟨rfl, rfl⟩ := trodVars_none hV
  obtain ⟨x0, y0, rfl, rfl, rfl, wx0, wy0⟩ := open_span (hval 0 34 v0 rfl rfl) h0
  obtain ⟨x1, y1, rfl, rfl, rfl, wx1, wy1⟩ := open_span (hval 1 34 v1 rfl rfl) h1
  clear hA0 hval0
  simp only [List.append_nil] at hW'
  refine (adds_law x0 y0 x1 y1 W).mono fun px => ?_
  exact ⟨_, rfl, post_of_below (pa := []) (pv := []) hW' (fun _ _ _ => (trodAll_cons_mk (shut_bool Try.underlying4 _) trodAll_mk0)) (fun sp _ => (trodAll_cons_mk (shut_span wx0 wy0) (trodAll_cons_mk (shut_span wx1 wy1) trodAll_mk0))) (fun _ _ => rfl) rfl
    (Up.below ⟨px, rfl⟩) (ok_one (by kernel_rfl) rfl (okWide_bool_mk Try.underlying4 _))⟩

theorem adds_holds : Rows.SpanAddsSaid :=
  OpenClaim.holds_of_wide 11 Try.f11 rfl rfl rfl rfl rfl rfl rfl ⟨rfl, rfl, rfl, rfl, rfl⟩ rfl rfl rfl rfl rfl (by kernel_rfl) Try.func11 (by kernel_rfl)
    (of_decide_eq_true (by kernel_rfl)) (by unfold Func.isWrapper; rw [if_neg (by decide +kernel)]; exact ⟨rfl, rfl⟩)
    (fun os started H enc _ => adds_lifted os started H enc)
#print axioms adds_holds
end Go.Proofs.Ytfpdnmfklmgmfaa
