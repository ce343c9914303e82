/- What Hull, Meet and Split return. No conditions. -/
import Derived.Test.YtfpdnmfklmgmfaaSpanA
namespace Go.Proofs.Ytfpdnmfklmgmfaa
open Go.RowKit

def hullS (a b c d : Int) : Int × Int := if validE a b c d = 0 then (min a c, max b d) else (0, 0)
theorem hull_any (a b c d : Int) (w : World) : Gives Try.prog 45 #[.agg #[.int .i64 a, .int .i64 b], .agg #[.int .i64 c, .int .i64 d]] w
    (.agg #[.int .i64 (hullS a b c d).1, .int .i64 (hullS a b c d).2]) := by
  (unfold Gives; go_enter Try.func45, Try.ntmps45)
  go_wp2_with (go_at_call 86; refine (valid_any _ _ _ _ _).mono ?_; intro _)
  all_goals (refine bodyPost_give (by repeat (first | with_reducible exact Up.refl _ | apply Up.ext | apply Up.alloc | apply Up.drew | (refine Up.setCell ?_ (by simp; try omega) _))) rfl ⟨_, (by simp [results, Try.results45, go_sem]; rfl), ?_⟩)
  all_goals (go_light; first | (simp_all [hullS]; done) | (simp_all [hullS]; omega) | (simp_all [hullS]; repeat' split; all_goals (first | (simp_all; done) | omega | (simp_all; omega))))

def meetS (a b c d : Int) : Int × Int × Bool := if validE a b c d = 0 ∧ max a c ≤ min b d then (max a c, min b d, true) else (0, 0, false)
theorem meet_any (a b c d : Int) (w : World) : Gives Try.prog 35 #[.agg #[.int .i64 a, .int .i64 b], .agg #[.int .i64 c, .int .i64 d]] w
    (.tuple #[.agg #[.int .i64 (meetS a b c d).1, .int .i64 (meetS a b c d).2.1], .bool (meetS a b c d).2.2]) := by
  (unfold Gives; go_enter Try.func35, Try.ntmps35)
  go_wp2_with (go_at_call 86; refine (valid_any _ _ _ _ _).mono ?_; intro _)
  all_goals (refine bodyPost_give (by repeat (first | with_reducible exact Up.refl _ | apply Up.ext | apply Up.alloc | apply Up.drew | (refine Up.setCell ?_ (by simp; try omega) _))) rfl ⟨_, (by simp [results, Try.results35, go_sem]; rfl), ?_⟩)
  all_goals (go_light; first | (simp_all [meetS]; done) | (simp_all [meetS]; omega) | (simp_all [meetS]; repeat' split; all_goals (first | (simp_all; done) | omega | (simp_all; omega))))

/-- the halves: up to m, and above -/
def splitS (a b : Int) : Int × Int × Int × Int × Bool := if checkE a b = 0 ∧ ¬ a = b then (a, (a + b) / 2, (a + b) / 2 + 1, b, true) else (0, 0, 0, 0, false)
set_option maxHeartbeats 1000000 in
theorem split_any (a b : Int) (w : World) : Gives Try.prog 37 #[.agg #[.int .i64 a, .int .i64 b]] w
    (.tuple #[.agg #[.int .i64 (splitS a b).1, .int .i64 (splitS a b).2.1], .agg #[.int .i64 (splitS a b).2.2.1, .int .i64 (splitS a b).2.2.2.1], .bool (splitS a b).2.2.2.2]) := by
  by_cases hc : checkE a b = 0
  · have hb := check_zero hc
    obtain ⟨hb0, hb1, hb2⟩ := hb
    have hcb : (checkE a b != 0) = false := by simp [hc]
    by_cases hab : a = b
    · subst hab
      (unfold Gives; go_enter Try.func37, Try.ntmps37)
      go_wp2_with (go_at_call 39; refine (check_any _ _ _).mono ?_; intro _)
      all_goals (refine bodyPost_give (by repeat (first | with_reducible exact Up.refl _ | apply Up.ext | apply Up.alloc | apply Up.drew | (refine Up.setCell ?_ (by simp; try omega) _))) rfl ⟨_, (by simp [results, Try.results37, go_sem]; rfl), ?_⟩)
      all_goals (go_light; first | (simp_all [splitS]; done) | (simp_all [splitS]; omega) | (simp_all [splitS]; repeat' split; all_goals (first | (simp_all; done) | omega | (simp_all; omega))))
    · have hE : (a == b) = false := by simp [hab]
      (unfold Gives; go_enter Try.func37, Try.ntmps37)
      go_wp2_with (go_at_call 39; refine (check_any _ _ _).mono ?_; intro _)
      go_region
      go_wp2
      all_goals (refine bodyPost_give (by repeat (first | with_reducible exact Up.refl _ | apply Up.ext | apply Up.alloc | apply Up.drew | (refine Up.setCell ?_ (by simp; try omega) _))) rfl ⟨_, (by simp [results, Try.results37, go_sem]; rfl), ?_⟩)
      all_goals (go_light; first | (simp_all [splitS]; done) | (simp_all [splitS]; omega) | (simp_all [splitS]; repeat' split; all_goals (first | (simp_all; done) | omega | (simp_all; omega))))
  · have hcb : (checkE a b != 0) = true := by simp [hc]
    (unfold Gives; go_enter Try.func37, Try.ntmps37)
    go_wp2_with (go_at_call 39; refine (check_any _ _ _).mono ?_; intro _)
    all_goals (refine bodyPost_give (by repeat (first | with_reducible exact Up.refl _ | apply Up.ext | apply Up.alloc | apply Up.drew | (refine Up.setCell ?_ (by simp; try omega) _))) rfl ⟨_, (by simp [results, Try.results37, go_sem]; rfl), ?_⟩)
    all_goals (go_light; first | (simp_all [splitS]; done) | (simp_all [splitS]; omega) | (simp_all [splitS]; repeat' split; all_goals (first | (simp_all; done) | omega | (simp_all; omega))))
end Go.Proofs.Ytfpdnmfklmgmfaa
