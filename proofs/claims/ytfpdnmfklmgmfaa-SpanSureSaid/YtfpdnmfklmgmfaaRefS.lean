/- The document's own functions about spans: what they return. No conditions. -/
import Derived.Test.YtfpdnmfklmgmfaaRefA
import Derived.Test.YtfpdnmfklmgmfaaSpanB
namespace Go.Proofs.Ytfpdnmfklmgmfaa
open Go.RowKit

theorem rfits_any (n : Int) (w : World) : Gives Try.prog 93 #[.int .i64 n] w (.bool (fitsB n)) := by
  (unfold Gives; go_enter Try.func93, Try.ntmps93)
  go_wp2_with (go_at_call 75; refine (rbetween_any _ _ _ _).mono ?_; intro _)
  go_ret
  exact ⟨rfl, _, rfl⟩

theorem rcheck_any (lo hi : Int) (w : World) : Gives Try.prog 40 #[.agg #[.int .i64 lo, .int .i64 hi]] w (.int .i64 (checkE lo hi)) := by
  (unfold Gives; go_enter Try.func40, Try.ntmps40)
  go_wp2_with (go_at_call 93; refine (rfits_any _ _).mono ?_; intro _)
  all_goals (go_ret; refine ⟨ret_int ?_, (by repeat (first | with_reducible exact Up.refl _ | apply Up.ext | apply Up.alloc | apply Up.drew | (refine Up.setCell ?_ (by simp; try omega) _)))⟩)
  all_goals (go_light; first | (simp_all [checkE]; done) | (simp_all [checkE]; omega) | (simp_all [checkE]; repeat' split; all_goals (first | (simp_all; done) | omega | (simp_all; omega))))

theorem rboth_any (a b c d : Int) (w : World) : Gives Try.prog 90 #[.agg #[.int .i64 a, .int .i64 b], .agg #[.int .i64 c, .int .i64 d]] w (.int .i64 (validE a b c d)) := by
  (unfold Gives; go_enter Try.func90, Try.ntmps90)
  go_wp2_with (go_at_call 40; refine (rcheck_any _ _ _).mono ?_; intro _)
  all_goals (go_ret; refine ⟨ret_int ?_, (by repeat (first | with_reducible exact Up.refl _ | apply Up.ext | apply Up.alloc | apply Up.drew | (refine Up.setCell ?_ (by simp; try omega) _)))⟩)
  all_goals (go_light; first | (simp_all [validE]; done) | (simp_all [validE]; omega) | (simp_all [validE]; repeat' split; all_goals (first | (simp_all; done) | omega | (simp_all; omega))))

theorem rin_any (a b n : Int) (w : World) : Gives Try.prog 42 #[.agg #[.int .i64 a, .int .i64 b], .int .i64 n] w (.bool (inB a b n)) := by
  (unfold Gives; go_enter Try.func42, Try.ntmps42)
  go_wp2_with (first | (go_at_call 40; refine (rcheck_any _ _ _).mono ?_; intro _) | (go_at_call 75; refine (rbetween_any _ _ _ _).mono ?_; intro _))
  all_goals (go_ret; refine ⟨ret_bool ?_, (by repeat (first | with_reducible exact Up.refl _ | apply Up.ext | apply Up.alloc | apply Up.drew | (refine Up.setCell ?_ (by simp; try omega) _)))⟩)
  all_goals (go_light; first | (simp_all [inB]; done) | (simp_all [inB]; omega) | (simp_all [inB]; repeat' split; all_goals (first | (simp_all; done) | omega | (simp_all; omega))))

theorem rinside_any (a b c d : Int) (w : World) : Gives Try.prog 44 #[.agg #[.int .i64 a, .int .i64 b], .agg #[.int .i64 c, .int .i64 d]] w (.bool (insideB a b c d)) := by
  (unfold Gives; go_enter Try.func44, Try.ntmps44)
  go_wp2_with (go_at_call 90; refine (rboth_any _ _ _ _ _).mono ?_; intro _)
  all_goals (go_ret; refine ⟨ret_bool ?_, (by repeat (first | with_reducible exact Up.refl _ | apply Up.ext | apply Up.alloc | apply Up.drew | (refine Up.setCell ?_ (by simp; try omega) _)))⟩)
  all_goals (go_light; first | (simp_all [insideB]; done) | (simp_all [insideB]; omega) | (simp_all [insideB]; repeat' split; all_goals (first | (simp_all; done) | omega | (simp_all; omega))))

theorem rhull_any (a b c d : Int) (w : World) : Gives Try.prog 46 #[.agg #[.int .i64 a, .int .i64 b], .agg #[.int .i64 c, .int .i64 d]] w
    (.agg #[.int .i64 (hullS a b c d).1, .int .i64 (hullS a b c d).2]) := by
  (unfold Gives; go_enter Try.func46, Try.ntmps46)
  go_wp2_with (go_at_call 90; refine (rboth_any _ _ _ _ _).mono ?_; intro _)
  all_goals (refine bodyPost_give (by repeat (first | with_reducible exact Up.refl _ | apply Up.ext | apply Up.alloc | apply Up.drew | (refine Up.setCell ?_ (by simp; try omega) _))) rfl ⟨_, (by simp [results, Try.results46, go_sem]; rfl), ?_⟩)
  all_goals (go_light; first | (simp_all [hullS]; done) | (simp_all [hullS]; omega) | (simp_all [hullS]; repeat' split; all_goals (first | (simp_all; done) | omega | (simp_all; omega))))

set_option maxHeartbeats 1000000 in
theorem rmeet_any (a b c d : Int) (w : World) : Gives Try.prog 36 #[.agg #[.int .i64 a, .int .i64 b], .agg #[.int .i64 c, .int .i64 d]] w
    (.tuple #[.agg #[.int .i64 (meetS a b c d).1, .int .i64 (meetS a b c d).2.1], .bool (meetS a b c d).2.2]) := by
  (unfold Gives; go_enter Try.func36, Try.ntmps36)
  go_wp2_with fail
  ((first | with_reducible refine wp_region_ext2 (by kernel_rfl) (by kernel_rfl) ?_ | refine wp_region_ext (by kernel_rfl) (by kernel_rfl) ?_); (repeat (go_big_quiet_step (fail))); refine wpQuiet_nil ?_; intro _ hw'; obtain ⟨_, hw''⟩ := hw'; subst hw'')
  go_wp2_with (go_at_call 90; refine (rboth_any _ _ _ _ _).mono ?_; intro _)
  all_goals (refine bodyPost_give (by repeat (first | with_reducible exact Up.refl _ | apply Up.ext | apply Up.alloc | apply Up.drew | (refine Up.setCell ?_ (by simp; try omega) _))) rfl ⟨_, (by simp [results, Try.results36, go_sem]; rfl), ?_⟩)
  all_goals (go_light; first | (simp_all [meetS]; done) | (simp_all [meetS]; omega) | (simp_all [meetS]; repeat' split; all_goals (first | (simp_all; done) | omega | (simp_all; omega))))

set_option maxHeartbeats 1000000 in
theorem rsplit_any (a b : Int) (w : World) : Gives Try.prog 38 #[.agg #[.int .i64 a, .int .i64 b]] w
    (.tuple #[.agg #[.int .i64 (splitS a b).1, .int .i64 (splitS a b).2.1], .agg #[.int .i64 (splitS a b).2.2.1, .int .i64 (splitS a b).2.2.2.1], .bool (splitS a b).2.2.2.2]) := by
  by_cases hc : checkE a b = 0
  · have hb := check_zero hc
    obtain ⟨hb0, hb1, hb2⟩ := hb
    have hcb : (checkE a b != 0) = false := by simp [hc]
    by_cases hab : a = b
    · subst hab
      (unfold Gives; go_enter Try.func38, Try.ntmps38)
      go_wp2_with (go_at_call 40; refine (rcheck_any _ _ _).mono ?_; intro _)
      all_goals (refine bodyPost_give (by repeat (first | with_reducible exact Up.refl _ | apply Up.ext | apply Up.alloc | apply Up.drew | (refine Up.setCell ?_ (by simp; try omega) _))) rfl ⟨_, (by simp [results, Try.results38, go_sem]; rfl), ?_⟩)
      all_goals (go_light; first | (simp_all [splitS]; done) | (simp_all [splitS]; omega) | (simp_all [splitS]; repeat' split; all_goals (first | (simp_all; done) | omega | (simp_all; omega))))
    · have hE : (a == b) = false := by simp [hab]
      (unfold Gives; go_enter Try.func38, Try.ntmps38)
      go_wp2_with (go_at_call 40; refine (rcheck_any _ _ _).mono ?_; intro _)
      go_region
      go_wp2
      all_goals (refine bodyPost_give (by repeat (first | with_reducible exact Up.refl _ | apply Up.ext | apply Up.alloc | apply Up.drew | (refine Up.setCell ?_ (by simp; try omega) _))) rfl ⟨_, (by simp [results, Try.results38, go_sem]; rfl), ?_⟩)
      all_goals (go_light; first | (simp_all [splitS]; done) | (simp_all [splitS]; omega) | (simp_all [splitS]; repeat' split; all_goals (first | (simp_all; done) | omega | (simp_all; omega))))
  · have hcb : (checkE a b != 0) = true := by simp [hc]
    (unfold Gives; go_enter Try.func38, Try.ntmps38)
    go_wp2_with (go_at_call 40; refine (rcheck_any _ _ _).mono ?_; intro _)
    all_goals (refine bodyPost_give (by repeat (first | with_reducible exact Up.refl _ | apply Up.ext | apply Up.alloc | apply Up.drew | (refine Up.setCell ?_ (by simp; try omega) _))) rfl ⟨_, (by simp [results, Try.results38, go_sem]; rfl), ?_⟩)
    all_goals (go_light; first | (simp_all [splitS]; done) | (simp_all [splitS]; omega) | (simp_all [splitS]; repeat' split; all_goals (first | (simp_all; done) | omega | (simp_all; omega))))

theorem rcheckarea_any (a b c d : Int) (w : World) : Gives Try.prog 48 #[.agg #[.int .i64 a, .int .i64 b, .int .i64 c, .int .i64 d]] w (.int .i64 (areaE a b c d)) := by
  (unfold Gives; go_enter Try.func48, Try.ntmps48)
  go_wp2_with (first | (go_at_call 90; refine (rboth_any _ _ _ _ _).mono ?_; intro _) | (go_at_call 98; refine (rfar_any _ _).mono ?_; intro _))
  all_goals (go_ret; refine ⟨ret_int ?_, (by repeat (first | with_reducible exact Up.refl _ | apply Up.ext | apply Up.alloc | apply Up.drew | (refine Up.setCell ?_ (by simp; try omega) _)))⟩)
  all_goals (go_light; first | (simp_all [areaE, farA]; done) | (simp_all [areaE, farA]; omega) | (simp_all [areaE, farA]; repeat' split; all_goals (first | (simp_all; done) | omega | (simp_all; omega))))

theorem rresult_any (lo hi : Int) (w : World) : Gives Try.prog 101 #[.int .i64 lo, .int .i64 hi] w (.tuple #[.agg #[.int .i64 (endsS lo hi).1, .int .i64 (endsS lo hi).2.1], .int .i64 (endsS lo hi).2.2]) := by
  (unfold Gives; go_enter Try.func101, Try.ntmps101)
  go_wp2_with (go_at_call 93; refine (rfits_any _ _).mono ?_; intro _)
  all_goals (refine bodyPost_give (by repeat (first | with_reducible exact Up.refl _ | apply Up.ext | apply Up.alloc | apply Up.drew | (refine Up.setCell ?_ (by simp; try omega) _))) rfl ⟨_, (by simp [results, Try.results101, go_sem]; rfl), ?_⟩)
  all_goals (go_light; first | (simp_all [endsS]; done) | (simp_all [endsS]; omega) | (simp_all [endsS]; repeat' split; all_goals (first | (simp_all; done) | omega | (simp_all; omega))))

theorem radd_any (a b c d : Int) (w : World) : Gives Try.prog 53 #[.agg #[.int .i64 a, .int .i64 b], .agg #[.int .i64 c, .int .i64 d]] w
    (.tuple #[.agg #[.int .i64 (addS a b c d).1, .int .i64 (addS a b c d).2.1], .int .i64 (addS a b c d).2.2]) := by
  by_cases hv : validE a b c d = 0
  · obtain ⟨h1, h2⟩ := valid_zero hv
    obtain ⟨a0, a1, a2⟩ := check_zero h1
    obtain ⟨c0, c1, c2⟩ := check_zero h2
    have hvb : (validE a b c d != 0) = false := by simp [hv]
    rw [show addS a b c d = endsS (a + c) (b + d) by unfold addS; rw [if_pos hv]]
    clear h1 h2 hv
    (unfold Gives; go_enter Try.func53, Try.ntmps53)
    go_wp2_with (first | (go_at_call 90; refine (rboth_any _ _ _ _ _).mono ?_; intro _) | (go_at_call 101; refine (rresult_any _ _ _).mono ?_; intro _))
    all_goals (refine bodyPost_give (by repeat (first | with_reducible exact Up.refl _ | apply Up.ext | apply Up.alloc | apply Up.drew | (refine Up.setCell ?_ (by simp; try omega) _))) rfl ⟨_, (by simp [results, Try.results53, go_sem]; rfl), ?_⟩)
    all_goals rfl
  · have hvb : (validE a b c d != 0) = true := by simp [hv]
    rw [show addS a b c d = (0, 0, validE a b c d) by unfold addS; rw [if_neg hv]]
    clear hv
    (unfold Gives; go_enter Try.func53, Try.ntmps53)
    go_wp2_with (go_at_call 90; refine (rboth_any _ _ _ _ _).mono ?_; intro _)
    all_goals (refine bodyPost_give (by repeat (first | with_reducible exact Up.refl _ | apply Up.ext | apply Up.alloc | apply Up.drew | (refine Up.setCell ?_ (by simp; try omega) _))) rfl ⟨_, (by simp [results, Try.results53, go_sem]; rfl), ?_⟩)
    all_goals rfl

theorem rsub_any (a b c d : Int) (w : World) : Gives Try.prog 55 #[.agg #[.int .i64 a, .int .i64 b], .agg #[.int .i64 c, .int .i64 d]] w
    (.tuple #[.agg #[.int .i64 (subS a b c d).1, .int .i64 (subS a b c d).2.1], .int .i64 (subS a b c d).2.2]) := by
  by_cases hv : validE a b c d = 0
  · obtain ⟨h1, h2⟩ := valid_zero hv
    obtain ⟨a0, a1, a2⟩ := check_zero h1
    obtain ⟨c0, c1, c2⟩ := check_zero h2
    have hvb : (validE a b c d != 0) = false := by simp [hv]
    rw [show subS a b c d = endsS (a - d) (b - c) by unfold subS; rw [if_pos hv]]
    clear h1 h2 hv
    (unfold Gives; go_enter Try.func55, Try.ntmps55)
    go_wp2_with (first | (go_at_call 90; refine (rboth_any _ _ _ _ _).mono ?_; intro _) | (go_at_call 101; refine (rresult_any _ _ _).mono ?_; intro _))
    all_goals (refine bodyPost_give (by repeat (first | with_reducible exact Up.refl _ | apply Up.ext | apply Up.alloc | apply Up.drew | (refine Up.setCell ?_ (by simp; try omega) _))) rfl ⟨_, (by simp [results, Try.results55, go_sem]; rfl), ?_⟩)
    all_goals rfl
  · have hvb : (validE a b c d != 0) = true := by simp [hv]
    rw [show subS a b c d = (0, 0, validE a b c d) by unfold subS; rw [if_neg hv]]
    clear hv
    (unfold Gives; go_enter Try.func55, Try.ntmps55)
    go_wp2_with (go_at_call 90; refine (rboth_any _ _ _ _ _).mono ?_; intro _)
    all_goals (refine bodyPost_give (by repeat (first | with_reducible exact Up.refl _ | apply Up.ext | apply Up.alloc | apply Up.drew | (refine Up.setCell ?_ (by simp; try omega) _))) rfl ⟨_, (by simp [results, Try.results55, go_sem]; rfl), ?_⟩)
    all_goals rfl
end Go.Proofs.Ytfpdnmfklmgmfaa
