/- Several texts in one. -/
import Derived.Test.YtbcgdhldkanecaaGreatForceB
import Derived.Test.YtbcgdhldkanecaaGreatStore
/- Package force: distances from a body; the pull in a direction. Conditions: a radius up to its limit. -/
namespace Go.Proofs.YtbcgdhldkanecaaGreat
set_option linter.unusedVariables false
set_option linter.unusedSimpArgs false
open Go.RowKit Go.Shelf

theorem fadd2 (s1 s2 : Sp) (h : checkE s1.1 s1.2 = 0) {w : World} {B : Nat} {T : TypeId} (hb : Box w B #[.int .i64 s1.1, .int .i64 s1.2, .int .i64 s2.1, .int .i64 s2.2] T) :
    Gives Tryz.prog 61 #[.slice (some ⟨B, 0, none⟩) 2 2] w (.agg #[.int .i64 (addP s1 s2).1, .int .i64 (addP s1 s2).2]) := by
  have h2 := fadd_any w (Prs.two (a := s1) (b := s2) hb)
  have e : [s1, s2].foldl addP (0, 0) = addP s1 s2 := by
    simp only [List.foldl_cons, List.foldl_nil]
    rw [addP_zero h]
  rw [e] at h2
  exact h2

set_option maxRecDepth 100000 in
set_option maxHeartbeats 2000000 in
theorem fdist_any (mu r : Int) (tv : Value) (p : Sp) (a : Ar) (r0 : 0 ≤ r) (r1 : r ≤ 1048576) (w : World) : Gives Tryz.prog 58 #[.agg #[.int .i64 mu, .int .i64 r, tv, .int .i64 p.1, .int .i64 p.2], .agg #[.int .i64 a.1, .int .i64 a.2.1, .int .i64 a.2.2.1, .int .i64 a.2.2.2]] w
    (.tuple #[.agg #[.int .i64 (sqP r (toP p a)).1, .int .i64 (sqP r (toP p a)).2], .agg #[.int .i64 (distP r (toP p a)).1, .int .i64 (distP r (toP p a)).2]]) := by
  have HT := hide (fun W => fto_any mu r tv p a W)
  have HE := hide (fun W => fedge_any mu r tv p.1 p.2 r0 r1 W)
  obtain ⟨v, hv⟩ : ∃ v, toP p a = v := ⟨_, rfl⟩
  rw [hv] at HT ⊢
  clear hv
  obtain ⟨p1, p2⟩ := p
  obtain ⟨a1, a2, a3, a4⟩ := a
  obtain ⟨v1, v2, v3, v4⟩ := v
  dsimp only at HT HE
  obtain ⟨E, hE⟩ : ∃ E, edgeV r = E := ⟨_, rfl⟩
  have HS := hide hE
  rw [hE] at HE
  clear hE
  (unfold Gives; go_enter Tryz.func58, Tryz.ntmps58)
  go_wp2_with (go_at_call 73; refine (HT.out _).mono ?_; intro _)
  ((first | with_reducible refine wp_region_ext_tail2 3 (by kernel_rfl) (by kernel_rfl) ?_ | refine wp_region_ext_tail 3 (by kernel_rfl) (by kernel_rfl) ?_); simp only [List.length_cons, List.length_nil, Nat.reduceAdd, Nat.reduceSub, List.take_succ_cons, List.take_zero, List.drop_succ_cons, List.drop_zero]; (repeat (go_big_quiet_step ((go_at_call 67; with_reducible exact Gives.inRegion (fsquare2 _ _ _))))); refine wpQuiet_nil ?_; intro _ hw'; obtain ⟨_, hw''⟩ := hw'; subst hw'')
  go_wp2_with (go_at_call 61; refine (fadd2 (squareP (v1, v2)) (squareP (v3, v4)) (squareP_check _) (Box.mk (by simp))).mono ?_; intro _)
  ((first | with_reducible refine wp_region_ext_tail2 1 (by kernel_rfl) (by kernel_rfl) ?_ | refine wp_region_ext_tail 1 (by kernel_rfl) (by kernel_rfl) ?_); simp only [List.length_cons, List.length_nil, Nat.reduceAdd, Nat.reduceSub, List.take_succ_cons, List.take_zero, List.drop_succ_cons, List.drop_zero]; (repeat (go_big_quiet_step ((go_at_call 85; with_reducible exact Gives.inRegion (HE.out _))))); refine wpQuiet_nil ?_; intro _ hw'; obtain ⟨_, hw''⟩ := hw'; subst hw'')
  go_wp2_with (go_at_call 86; refine (roots_any _ _ _).mono ?_; intro _)
  refine forgetW (fun W => Up w W ∧ Box W (w.heap.size + 1 + 1) #[.int .i64 (sqP r ((v1, v2, v3, v4))).1, .int .i64 (sqP r ((v1, v2, v3, v4))).2] 26 ∧ Box W (w.heap.size + 1 + 1 + 1) #[.int .i64 (distP r ((v1, v2, v3, v4))).1, .int .i64 (distP r ((v1, v2, v3, v4))).2] 26) ⟨(by repeat (first | with_reducible exact Up.refl _ | with_reducible apply Up.plus | apply Up.ext | apply Up.alloc | apply Up.drew | (refine Up.setCell ?_ (by simp; try omega) _))), ?_, ?_⟩ ?_
  · unfold sqP; rw [HS.out]; exact (by repeat (first | exact Box.mk rfl | (refine Box.mk ?_; simp; done) | apply Box.ext | apply Box.drew | apply Box.alloc | apply Box.two1 | (refine Box.other ?_ (by omega) _ _)))
  · unfold distP rootsP sqP; rw [HS.out]; exact (by repeat (first | exact Box.mk rfl | (refine Box.mk ?_; simp; done) | apply Box.ext | apply Box.drew | apply Box.alloc | apply Box.two1 | (refine Box.other ?_ (by omega) _ _)))
  rintro W ⟨hu, b1, b2⟩
  have c0 := b1.cell 0 rfl
  have c1 := b1.cell 1 rfl
  have c2 := b2.cell 0 rfl
  have c3 := b2.cell 1 rfl
  have f0 := b1.frozen 0
  have f1 := b1.frozen 1
  have f2 := b2.frozen 0
  have f3 := b2.frozen 1
  have l1 := b1.lt
  have l2 := b2.lt
  have HB := hide (And.intro hu (And.intro b1 b2))
  clear hu b1 b2
  go_region
  all_goals go_wp2
  have q := (((((HB.out.2.1.set 0 (.int .i64 (sqP r (v1, v2, v3, v4)).1)).set 1 (.int .i64 (sqP r (v1, v2, v3, v4)).2)).other (b' := w.heap.size + 1 + 1 + 1) (by omega) 0 (.int .i64 (distP r (v1, v2, v3, v4)).1)).other (b' := w.heap.size + 1 + 1 + 1) (by omega) 1 (.int .i64 (distP r (v1, v2, v3, v4)).2)).drew)
  have s := (((((HB.out.2.2.other (b' := w.heap.size + 1 + 1) (by omega) 0 (.int .i64 (sqP r (v1, v2, v3, v4)).1)).other (b' := w.heap.size + 1 + 1) (by omega) 1 (.int .i64 (sqP r (v1, v2, v3, v4)).2)).set 0 (.int .i64 (distP r (v1, v2, v3, v4)).1)).set 1 (.int .i64 (distP r (v1, v2, v3, v4)).2)).drew)
  have q0 := q.cell 0 (v := .int .i64 (sqP r (v1, v2, v3, v4)).1) rfl
  have q1 := q.cell 1 (v := .int .i64 (sqP r (v1, v2, v3, v4)).2) rfl
  have s0 := s.cell 0 (v := .int .i64 (distP r (v1, v2, v3, v4)).1) rfl
  have s1 := s.cell 1 (v := .int .i64 (distP r (v1, v2, v3, v4)).2) rfl
  clear q s
  (refine bodyPost_give (by repeat (first | with_reducible exact HB.out.1 | with_reducible exact Up.refl _ | apply Up.ext | apply Up.alloc | apply Up.drew | (refine Up.setCell ?_ (by simp [World.setCell]; try omega) _))) rfl ⟨_, (by simp [results, Tryz.results58, go_sem, q0, q1, s0, s1]; rfl), ?_⟩)
  rfl

end Go.Proofs.YtbcgdhldkanecaaGreat

/- The reference of package force: vectors, distances, the pull of one body. Conditions: what lies in memory. -/
namespace Go.Proofs.YtbcgdhldkanecaaGreat
set_option linter.unusedVariables false
set_option linter.unusedSimpArgs false
open Go.RowKit Go.Shelf

set_option maxRecDepth 100000 in
theorem g_to (p1 p2 a b c d : Int) (w : World) : Gives Tryz.prog 62 #[.agg #[.int .i64 (p1), .int .i64 (p2)], .agg #[.int .i64 (a), .int .i64 (b), .int .i64 (c), .int .i64 (d)]] w
    (.tuple #[.agg #[.int .i64 (subP (p1, p1) (a, b)).1, .int .i64 (subP (p1, p1) (a, b)).2], .agg #[.int .i64 (subP (p2, p2) (c, d)).1, .int .i64 (subP (p2, p2) (c, d)).2]]) := by
  (unfold Gives; go_enter Tryz.func62, Tryz.ntmps62)
  go_wp2_with fail
  ((first | with_reducible refine wp_region_ext_tail2 2 (by kernel_rfl) (by kernel_rfl) ?_ | refine wp_region_ext_tail 2 (by kernel_rfl) (by kernel_rfl) ?_); simp only [List.length_cons, List.length_nil, Nat.reduceAdd, Nat.reduceSub, List.take_succ_cons, List.take_zero, List.drop_succ_cons, List.drop_zero]; (repeat (go_big_quiet_step ((go_at_call 66; with_reducible exact Gives.inRegion (g_less4 _ _ _ _ _))))); refine wpQuiet_nil ?_; intro _ hw'; obtain ⟨_, hw''⟩ := hw'; subst hw'')
  go_wp2
  all_goals (refine bodyPost_give (by repeat (first | with_reducible exact Up.refl _ | with_reducible apply Up.plus | apply Up.ext | apply Up.alloc | apply Up.drew | (refine Up.setCell ?_ (by simp; try omega) _))) rfl ⟨_, (by simp [results, Tryz.results62, go_sem]; rfl), ?_⟩)
  all_goals rfl

set_option maxRecDepth 100000 in
set_option maxHeartbeats 2000000 in
theorem g_dist (mu r : Int) (tv : Value) (v1 v2 v3 v4 : Int) (r0 : 0 ≤ r) (r1 : r ≤ 1048576) (w : World) : Gives Tryz.prog 64 #[.agg #[.int .i64 mu, .int .i64 r, tv], .agg #[.int .i64 (v1), .int .i64 (v2)], .agg #[.int .i64 (v3), .int .i64 (v4)]] w
    (.tuple #[.agg #[.int .i64 (sqP r (v1, v2, v3, v4)).1, .int .i64 (sqP r (v1, v2, v3, v4)).2], .agg #[.int .i64 (distP r (v1, v2, v3, v4)).1, .int .i64 (distP r (v1, v2, v3, v4)).2]]) := by
  have h1 : 0 ≤ r * r := Int.mul_nonneg r0 r0
  have h2 : r * r ≤ 1099511627776 := by have := Int.mul_le_mul r1 r1 r0 (by omega); omega
  (unfold Gives; go_enter Tryz.func64, Tryz.ntmps64)
  go_wp2_with fail
  ((first | with_reducible refine wp_region_ext_tail2 1 (by kernel_rfl) (by kernel_rfl) ?_ | refine wp_region_ext_tail 1 (by kernel_rfl) (by kernel_rfl) ?_); simp only [List.length_cons, List.length_nil, Nat.reduceAdd, Nat.reduceSub, List.take_succ_cons, List.take_zero, List.drop_succ_cons, List.drop_zero]; (repeat (go_big_quiet_step ((first | (go_at_call 68; with_reducible exact Gives.inRegion (g_squared2 _ _ _)) | (go_at_call 52; with_reducible exact Gives.inRegion (g_sum4 _ _ _ _ _)))))); refine wpQuiet_nil ?_; intro _ hw'; obtain ⟨_, hw''⟩ := hw'; subst hw'')
  go_wp2_with (go_at_call 92; refine (rroots_any _ _ _).mono ?_; intro _)
  refine forgetW (fun W => Up w W ∧ Box W (w.heap.size + 1 + 1 + 1) #[.int .i64 (sqP r ((v1, v2, v3, v4))).1, .int .i64 (sqP r ((v1, v2, v3, v4))).2] 26 ∧ Box W (w.heap.size + 1 + 1 + 1 + 1) #[.int .i64 (distP r ((v1, v2, v3, v4))).1, .int .i64 (distP r ((v1, v2, v3, v4))).2] 26) ⟨(by repeat (first | with_reducible exact Up.refl _ | with_reducible apply Up.plus | apply Up.ext | apply Up.alloc | apply Up.drew | (refine Up.setCell ?_ (by simp; try omega) _))), ?_, ?_⟩ ?_
  · unfold sqP edgeV; exact (by repeat (first | exact Box.mk rfl | (refine Box.mk ?_; simp; done) | apply Box.ext | apply Box.drew | apply Box.alloc | apply Box.two1 | (refine Box.other ?_ (by omega) _ _)))
  · unfold distP rootsP sqP edgeV; exact (by repeat (first | exact Box.mk rfl | (refine Box.mk ?_; simp; done) | apply Box.ext | apply Box.drew | apply Box.alloc | apply Box.two1 | (refine Box.other ?_ (by omega) _ _)))
  rintro W ⟨hu, b1, b2⟩
  have c0 := b1.cell 0 rfl
  have c1 := b1.cell 1 rfl
  have c2 := b2.cell 0 rfl
  have c3 := b2.cell 1 rfl
  have f0 := b1.frozen 0
  have f1 := b1.frozen 1
  have f2 := b2.frozen 0
  have f3 := b2.frozen 1
  have l1 := b1.lt
  have l2 := b2.lt
  have HB := hide (And.intro hu (And.intro b1 b2))
  clear hu b1 b2 h1 h2
  go_region
  all_goals go_wp2
  have q := (((((HB.out.2.1.set 0 (.int .i64 (sqP r (v1, v2, v3, v4)).1)).set 1 (.int .i64 (sqP r (v1, v2, v3, v4)).2)).other (b' := w.heap.size + 1 + 1 + 1 + 1) (by omega) 0 (.int .i64 (distP r (v1, v2, v3, v4)).1)).other (b' := w.heap.size + 1 + 1 + 1 + 1) (by omega) 1 (.int .i64 (distP r (v1, v2, v3, v4)).2)).drew)
  have s := (((((HB.out.2.2.other (b' := w.heap.size + 1 + 1 + 1) (by omega) 0 (.int .i64 (sqP r (v1, v2, v3, v4)).1)).other (b' := w.heap.size + 1 + 1 + 1) (by omega) 1 (.int .i64 (sqP r (v1, v2, v3, v4)).2)).set 0 (.int .i64 (distP r (v1, v2, v3, v4)).1)).set 1 (.int .i64 (distP r (v1, v2, v3, v4)).2)).drew)
  have q0 := q.cell 0 (v := .int .i64 (sqP r (v1, v2, v3, v4)).1) rfl
  have q1 := q.cell 1 (v := .int .i64 (sqP r (v1, v2, v3, v4)).2) rfl
  have s0 := s.cell 0 (v := .int .i64 (distP r (v1, v2, v3, v4)).1) rfl
  have s1 := s.cell 1 (v := .int .i64 (distP r (v1, v2, v3, v4)).2) rfl
  clear q s
  (refine bodyPost_give (by repeat (first | with_reducible exact HB.out.1 | with_reducible exact Up.refl _ | apply Up.ext | apply Up.alloc | apply Up.drew | (refine Up.setCell ?_ (by simp [World.setCell]; try omega) _))) rfl ⟨_, (by simp [results, Tryz.results64, go_sem, q0, q1, s0, s1]; rfl), ?_⟩)
  rfl
end Go.Proofs.YtbcgdhldkanecaaGreat

