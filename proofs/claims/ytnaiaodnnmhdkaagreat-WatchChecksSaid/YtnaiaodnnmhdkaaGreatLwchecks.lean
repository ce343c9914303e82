/- WatchChecks returns true for every input: which watches are valid, or which error, is what the reference says; no set is changed. No conditions. -/
import Derived.Test.YtnaiaodnnmhdkaaGreatWatW
import Derived.ChangeSame
import Derived.OpenShut
namespace Go.Proofs.YtnaiaodnnmhdkaaGreat
set_option linter.unusedVariables false
set_option linter.unusedSimpArgs false
open Go.RowKit Go.ChangeShapes Go.WideShapes Go.ChangeAt Go.Joins Go.Shelf

set_option maxRecDepth 100000 in
theorem wchecks_lifted (os : Os) (started : os.Started) (H : Type) (enc : TypeId × Value → H) :
    ReturnsInHanded {} Tryz.checked os 6 .any (Rows.watchChecksSpec.pre6 enc Tryz.prog Tryz.f6 Rows.watchChecksRow.domain false) (Rows.watchChecksSpec.post enc Tryz.prog Tryz.f6 false true false false) := by
  refine returnsInHanded_of_change (C := Tryz.checked) knob_own started (by kernel_rfl) Tryz.func6
    (ChangeSpec.witness6 (enc := enc) (C := Tryz.checked) false ⟨#[], #[.agg #[.slice none 0 0, .int .i64 0, .slice none 0 0, .slice none 0 0], .agg #[.int .i64 (0), .int .i64 (0), .int .i64 (0), .int .i64 (0), .int .i64 (0)], .int .i64 0, .slice none 0 0, .slice none 0 0], []⟩ 8 (by kernel_rfl) (by kernel_rfl) (by kernel_rfl) (by kernel_rfl)) ?_
  intro W base args ds gs before hval0 hW _ _
  have hval : ∀ (j : Nat) t v, Tryz.f6.params[j]? = some t → args[j]? = some v → Value.okWide Tryz.prog W .any base t v := hval0
  have hW' := hW
  obtain ⟨p, q, hA0, hV, rfl, _, _⟩ := hW
  have hA : DataW.TrodAll enc Tryz.prog W 0 (fun _ => true) true Tryz.f6.params.toList args.toList ds p := hA0
  rw [Tryz.params6] at hA hval
  obtain ⟨v0, vs0, d0, ds0, p0, q0, hargs, rfl, rfl, h0, r0⟩ := trodAll_cons hA
  obtain ⟨v1, vs1, d1, ds1, p1, q1, rfl, rfl, rfl, h1, r1⟩ := trodAll_cons r0
  obtain ⟨v2, vs2, d2, ds2, p2, q2, rfl, rfl, rfl, h2, r2⟩ := trodAll_cons r1
  obtain ⟨v3, vs3, d3, ds3, p3, q3, rfl, rfl, rfl, h3, r3⟩ := trodAll_cons r2
  obtain ⟨v4, vs4, d4, ds4, p4, q4, rfl, rfl, rfl, h4, r4⟩ := trodAll_cons r3
  obtain ⟨rfl, rfl, rfl⟩ := trodAll_nil r4
  obtain rfl : args = #[v0, v1, v2, v3, v4] := by cases args; simp_all
  obtain ⟨rfl, rfl⟩ := trodVars_none hV
  have hlt0 : ∀ x ∈ p0, x.block < W.heap.size := fun x hx => hW'.lt x (by simp [hx])
  have hv0 := hval 0 28 v0 rfl rfl
  have shut0 := shut_stay (by kernel_rfl) (by kernel_rfl) h0 hlt0
  obtain ⟨xa0, xn0, xc0, xsa0, xsn0, xsc0, xca0, xcn0, xcc0, s0, rfl, hL0⟩ := open_sky hv0 h0
  have hlt1 : ∀ x ∈ p1, x.block < W.heap.size := fun x hx => hW'.lt x (by simp [hx])
  have hv1 := hval 1 68 v1 rfl rfl
  have shut1 := shut_stay (by kernel_rfl) (by kernel_rfl) h1 hlt1
  obtain ⟨a1, b1, c1, e1, g1, rfl⟩ := open_drift hv1 h1
  have hlt2 : ∀ x ∈ p2, x.block < W.heap.size := fun x hx => hW'.lt x (by simp [hx])
  have hv2 := hval 2 2 v2 rfl rfl
  have shut2 := shut_stay (by kernel_rfl) (by kernel_rfl) h2 hlt2
  obtain ⟨a2, rfl, _, _, w2⟩ := open_int Tryz.underlying2 hv2 h2
  have hlt3 : ∀ x ∈ p3, x.block < W.heap.size := fun x hx => hW'.lt x (by simp [hx])
  have hv3 := hval 3 69 v3 rfl rfl
  have shut3 := shut_stay (by kernel_rfl) (by kernel_rfl) h3 hlt3
  obtain ⟨l3, ba3, bn3, bc3, rfl, hB3⟩ := open_boxes hv3 h3
  have hlt4 : ∀ x ∈ p4, x.block < W.heap.size := fun x hx => hW'.lt x (by simp [hx])
  have hv4 := hval 4 70 v4 rfl rfl
  have shut4 := shut_stay (by kernel_rfl) (by kernel_rfl) h4 hlt4
  obtain ⟨l4, oa4, on4, oc4, rfl, hO4⟩ := open_offers hv4 h4
  clear hA0 hval0
  simp only [List.append_nil] at hW'
  refine (wchecks_law hL0 ⟨(a1, b1), (c1, e1), g1⟩ a2 hB3 hO4).mono fun px => ?_
  exact ⟨_, rfl, post_of_below (pa := (p0 ++ (p1 ++ (p2 ++ (p3 ++ (p4 ++ [])))))) (pv := []) hW' (fun _ _ _ => (trodAll_cons_mk (shut_bool Tryz.underlying4 _) trodAll_mk0)) (fun sp hsp => (trodAll_cons_mk (shut0 _ sp (Up.below ⟨px, rfl⟩) (fun x hx => hsp x (by simp [hx]))) (trodAll_cons_mk (shut1 _ sp (Up.below ⟨px, rfl⟩) (fun x hx => hsp x (by simp [hx]))) (trodAll_cons_mk (shut2 _ sp (Up.below ⟨px, rfl⟩) (fun x hx => hsp x (by simp [hx]))) (trodAll_cons_mk (shut3 _ sp (Up.below ⟨px, rfl⟩) (fun x hx => hsp x (by simp [hx]))) (trodAll_cons_mk (shut4 _ sp (Up.below ⟨px, rfl⟩) (fun x hx => hsp x (by simp [hx]))) trodAll_mk0)))))) (fun _ _ => rfl) (by simp)
    (Up.below ⟨px, rfl⟩) (ok_one (by kernel_rfl) rfl (okWide_bool_mk Tryz.underlying4 _))⟩

set_option maxHeartbeats 40000000 in
theorem wchecks_holds : Rows.WatchChecksSaid :=
  OpenClaim.holds_of_wide 6 Tryz.f6 rfl rfl rfl rfl rfl rfl rfl ⟨rfl, rfl, rfl, rfl, rfl⟩ rfl rfl rfl rfl rfl (by as_aux_lemma => kernel_rfl) Tryz.func6 (by as_aux_lemma => kernel_rfl)
    (of_decide_eq_true (by as_aux_lemma => kernel_rfl)) (by unfold Func.isWrapper; rw [if_neg (by decide +kernel)]; exact ⟨rfl, rfl⟩)
    (fun os started H enc _ => wchecks_lifted os started H enc)
#print axioms wchecks_holds
end Go.Proofs.YtnaiaodnnmhdkaaGreat
