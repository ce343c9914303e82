/- The document's own products, squares and quotients of spans: what they return. No conditions. -/
import Derived.Test.YtfpdnmfklmgmfaaRefC
namespace Go.Proofs.Ytfpdnmfklmgmfaa
open Go.RowKit

theorem err_14 (o : Bool) (l : List (Int × Int)) : err (opR o) l = 0 ∨ err (opR o) l = 14 := by
  induction l with
  | nil => exact .inl rfl
  | cons x l ih =>
    unfold err
    split
    · exact ih
    · rename_i h
      rcases opR_err o x.1 x.2 with h1 | h1
      · exact absurd h1 h
      · rw [h1]; exact .inr rfl
theorem corR_comb (o : Bool) (a b c d : Int) (hv : validE a b c d = 0) : combE (opR o) a b c d = corR o a b c d := by
  unfold combE corR
  rw [if_pos hv]
  split
  · rfl
  · rename_i h
    rcases err_14 o (four a b c d) with h1 | h1
    · exact absurd h1 h
    · rw [h1]
theorem opR_true : opR true = fun x y => mdE x y := by funext x y; rfl
theorem opR_false : opR false = fun x y => mdE (x * y) 1 := by funext x y; rfl
theorem mulS_eq {a b c d : Int} (hv : validE a b c d = 0) : mulS a b c d = corR false a b c d := by
  rw [← corR_comb false a b c d hv, opR_false]; rfl
theorem quotS_eq {a b c d : Int} (hv : validE a b c d = 0) (hz : ¬ (c ≤ 0 ∧ 0 ≤ d)) : quotS a b c d = corR true a b c d := by
  rw [← corR_comb true a b c d hv, opR_true]; unfold quotS; rw [if_pos hv, if_neg hz]

theorem rmul_any (a b c d : Int) (w : World) : Gives Try.prog 57 #[.agg #[.int .i64 a, .int .i64 b], .agg #[.int .i64 c, .int .i64 d]] w
    (.tuple #[.agg #[.int .i64 (mulS a b c d).1, .int .i64 (mulS a b c d).2.1], .int .i64 (mulS a b c d).2.2]) := by
  by_cases hv : validE a b c d = 0
  · obtain ⟨h1, h2⟩ := valid_zero hv
    obtain ⟨a0, a1, a2⟩ := check_zero h1
    obtain ⟨c0, c1, c2⟩ := check_zero h2
    have hvb : (validE a b c d != 0) = false := by simp [hv]
    have HC := hide (fun W => rcorners_any false a b c d (by omega) (by omega) (by omega) (by omega) (by omega) (by omega) (by omega) (by omega) (by simp) W)
    rw [mulS_eq hv]
    clear h1 h2 hv
    (unfold Gives; go_enter Try.func57, Try.ntmps57)
    go_wp2_with (first | (go_at_call 90; (with_reducible refine (rboth_any _ _ _ _ _).mono ?_); intro _) | (go_at_call 91; (with_reducible refine (HC.out _).mono ?_); intro _))
    all_goals (refine bodyPost_give (by repeat (first | with_reducible exact Up.refl _ | apply Up.ext | apply Up.alloc | apply Up.drew | (refine Up.setCell ?_ (by simp; try omega) _))) rfl ⟨_, (by simp [results, Try.results57, go_sem]; rfl), ?_⟩)
    all_goals rfl
  · have hvb : (validE a b c d != 0) = true := by simp [hv]
    rw [show mulS a b c d = (0, 0, validE a b c d) by unfold mulS combE; rw [if_neg hv]]
    clear hv
    (unfold Gives; go_enter Try.func57, Try.ntmps57)
    go_wp2_with (go_at_call 90; (with_reducible refine (rboth_any _ _ _ _ _).mono ?_); intro _)
    all_goals (refine bodyPost_give (by repeat (first | with_reducible exact Up.refl _ | apply Up.ext | apply Up.alloc | apply Up.drew | (refine Up.setCell ?_ (by simp; try omega) _))) rfl ⟨_, (by simp [results, Try.results57, go_sem]; rfl), ?_⟩)
    all_goals rfl

theorem rquot_any (a b c d : Int) (w : World) : Gives Try.prog 31 #[.agg #[.int .i64 a, .int .i64 b], .agg #[.int .i64 c, .int .i64 d]] w
    (.tuple #[.agg #[.int .i64 (quotS a b c d).1, .int .i64 (quotS a b c d).2.1], .int .i64 (quotS a b c d).2.2]) := by
  by_cases hv : validE a b c d = 0
  · obtain ⟨h1, h2⟩ := valid_zero hv
    obtain ⟨a0, a1, a2⟩ := check_zero h1
    obtain ⟨c0, c1, c2⟩ := check_zero h2
    have hvb : (validE a b c d != 0) = false := by simp [hv]
    by_cases hz : c ≤ 0 ∧ 0 ≤ d
    · rw [show quotS a b c d = (0, 0, 2) by unfold quotS; rw [if_pos hv, if_pos hz]]
      obtain ⟨hz1, hz2⟩ := hz
      clear h1 h2 hv
      (unfold Gives; go_enter Try.func31, Try.ntmps31)
      go_wp2_with (go_at_call 90; (with_reducible refine (rboth_any _ _ _ _ _).mono ?_); intro _)
      all_goals (refine bodyPost_give (by repeat (first | with_reducible exact Up.refl _ | apply Up.ext | apply Up.alloc | apply Up.drew | (refine Up.setCell ?_ (by simp; try omega) _))) rfl ⟨_, (by simp [results, Try.results31, go_sem]; rfl), ?_⟩)
      all_goals rfl
    · have HC := hide (fun W => rcorners_any true a b c d (by omega) (by omega) (by omega) (by omega) (by omega) (by omega) (by omega) (by omega) (fun _ => by omega) W)
      rw [quotS_eq hv hz]
      clear h1 h2 hv
      by_cases hc : c ≤ 0
      · have hd : d < 0 := by omega
        clear hz
        (unfold Gives; go_enter Try.func31, Try.ntmps31)
        go_wp2_with (first | (go_at_call 90; (with_reducible refine (rboth_any _ _ _ _ _).mono ?_); intro _) | (go_at_call 91; (with_reducible refine (HC.out _).mono ?_); intro _))
        all_goals (refine bodyPost_give (by repeat (first | with_reducible exact Up.refl _ | apply Up.ext | apply Up.alloc | apply Up.drew | (refine Up.setCell ?_ (by simp; try omega) _))) rfl ⟨_, (by simp [results, Try.results31, go_sem]; rfl), ?_⟩)
        all_goals rfl
      · have hc' : 0 < c := by omega
        clear hz hc
        (unfold Gives; go_enter Try.func31, Try.ntmps31)
        go_wp2_with (first | (go_at_call 90; (with_reducible refine (rboth_any _ _ _ _ _).mono ?_); intro _) | (go_at_call 91; (with_reducible refine (HC.out _).mono ?_); intro _))
        all_goals (refine bodyPost_give (by repeat (first | with_reducible exact Up.refl _ | apply Up.ext | apply Up.alloc | apply Up.drew | (refine Up.setCell ?_ (by simp; try omega) _))) rfl ⟨_, (by simp [results, Try.results31, go_sem]; rfl), ?_⟩)
        all_goals rfl
  · have hvb : (validE a b c d != 0) = true := by simp [hv]
    rw [show quotS a b c d = (0, 0, validE a b c d) by unfold quotS; rw [if_neg hv]]
    clear hv
    (unfold Gives; go_enter Try.func31, Try.ntmps31)
    go_wp2_with (go_at_call 90; (with_reducible refine (rboth_any _ _ _ _ _).mono ?_); intro _)
    all_goals (refine bodyPost_give (by repeat (first | with_reducible exact Up.refl _ | apply Up.ext | apply Up.alloc | apply Up.drew | (refine Up.setCell ?_ (by simp; try omega) _))) rfl ⟨_, (by simp [results, Try.results31, go_sem]; rfl), ?_⟩)
    all_goals rfl

theorem mdE_one (p : Int) : mdE p 1 = if -1152921504606846976 ≤ p ∧ p ≤ 1152921504606846976 then (p, p, 0) else (0, 0, 14) := by
  unfold mdE ceiQ floQ
  simp only [show ¬ (1 : Int) < 0 by omega, if_false, Int.ediv_one, Int.neg_neg]
  split
  · rw [if_pos (by omega)]
  · rw [if_neg (by omega)]
/-- the square of what lies between two numbers that are not below 0 -/
theorem corR_square {l m : Int} (h0 : 0 ≤ l) (h1 : l ≤ m) (h2 : m ≤ 1152921504606846976) : corR false l m l m = if 1073741824 < m then (0, 0, 14) else endsS (l * l) (m * m) := by
  have a1 : 0 ≤ l * l := Int.mul_nonneg h0 h0
  have a2 : l * l ≤ l * m := Int.mul_le_mul_of_nonneg_left h1 h0
  have a3 : l * m ≤ m * m := Int.mul_le_mul_of_nonneg_right h1 (by omega)
  have a4 : m * l = l * m := Int.mul_comm _ _
  unfold corR
  rw [opR_false]
  unfold four
  by_cases hm : 1073741824 < m
  · rw [if_pos hm]
    have h3 := Int.mul_le_mul (show (1073741825 : Int) ≤ m by omega) (show (1073741825 : Int) ≤ m by omega) (by omega) (by omega)
    have hE : mdE (m * m) 1 = (0, 0, 14) := by rw [mdE_one, if_neg (by omega)]
    rw [if_neg]
    simp only [err]
    simp only [hE]
    split <;> (try split) <;> (try split) <;> simp_all
  · rw [if_neg hm]
    have h3 := Int.mul_le_mul (show m ≤ 1073741824 by omega) (show m ≤ 1073741824 by omega) (by omega) (by omega)
    have e1 : mdE (l * l) 1 = (l * l, l * l, 0) := by rw [mdE_one, if_pos (by omega)]
    have e2 : mdE (l * m) 1 = (l * m, l * m, 0) := by rw [mdE_one, if_pos (by omega)]
    have e3 : mdE (m * l) 1 = (l * m, l * m, 0) := by rw [mdE_one, if_pos (by omega), a4]
    have e4 : mdE (m * m) 1 = (m * m, m * m, 0) := by rw [mdE_one, if_pos (by omega)]
    rw [if_pos (by simp only [err, e1, e2, e3, e4, if_true])]
    unfold endsS
    rw [if_pos ⟨(fits_iff _).2 (by omega), (fits_iff _).2 (by omega)⟩]
    simp only [acc, List.foldl_cons, List.foldl_nil, e1, e2, e3, e4]
    congr 1
    · omega
    · congr 1; omega

theorem rsquareS_any (a b : Int) (w : World) : Gives Try.prog 59 #[.agg #[.int .i64 a, .int .i64 b]] w
    (.tuple #[.agg #[.int .i64 (squareS a b).1, .int .i64 (squareS a b).2.1], .int .i64 (squareS a b).2.2]) := by
  by_cases hv : checkE a b = 0
  · obtain ⟨a0, a1, a2⟩ := check_zero hv
    have hvb : (checkE a b != 0) = false := by simp [hv]
    have HC := hide (fun W => rcorners_any false (max a (max (-b) 0)) (max b (-a)) (max a (max (-b) 0)) (max b (-a)) (by omega) (by omega) (by omega) (by omega) (by omega) (by omega) (by omega) (by omega) (by simp) W)
    have HE : squareS a b = corR false (max a (max (-b) 0)) (max b (-a)) (max a (max (-b) 0)) (max b (-a)) := by
      unfold squareS; rw [if_pos hv, corR_square (by omega) (by omega) (by omega), show max (max 0 a) (-b) = max a (max (-b) 0) by omega, show max (-a) b = max b (-a) by omega]
    rw [HE]
    clear HE hv
    (unfold Gives; go_enter Try.func59, Try.ntmps59)
    go_wp2_with (first | (go_at_call 40; (with_reducible refine (rcheck_any _ _ _).mono ?_); intro _) | (go_at_call 91; (with_reducible refine (HC.out _).mono ?_); intro _))
    all_goals (refine bodyPost_give (by repeat (first | with_reducible exact Up.refl _ | apply Up.ext | apply Up.alloc | apply Up.drew | (refine Up.setCell ?_ (by simp; try omega) _))) rfl ⟨_, (by simp [results, Try.results59, go_sem]; rfl), ?_⟩)
    all_goals rfl
  · have hvb : (checkE a b != 0) = true := by simp [hv]
    rw [show squareS a b = (0, 0, checkE a b) by unfold squareS; rw [if_neg hv]]
    clear hv
    (unfold Gives; go_enter Try.func59, Try.ntmps59)
    go_wp2_with (go_at_call 40; (with_reducible refine (rcheck_any _ _ _).mono ?_); intro _)
    all_goals (refine bodyPost_give (by repeat (first | with_reducible exact Up.refl _ | apply Up.ext | apply Up.alloc | apply Up.drew | (refine Up.setCell ?_ (by simp; try omega) _))) rfl ⟨_, (by simp [results, Try.results59, go_sem]; rfl), ?_⟩)
    all_goals rfl
end Go.Proofs.Ytfpdnmfklmgmfaa
