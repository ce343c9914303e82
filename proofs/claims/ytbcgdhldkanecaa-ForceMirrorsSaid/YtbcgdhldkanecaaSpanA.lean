/- What the simple functions of package span return, each function once: numbers in range, spans, wide products. No conditions but those typed at each. -/
import Derived.Test.YtbcgdhldkanecaaBase
namespace Go.Proofs.Ytbcgdhldkanecaa
open Go.RowKit

def withinB (n lo hi : Int) : Bool := decide (lo ≤ n ∧ n ≤ hi)



theorem within_any (n lo hi : Int) (w : World) : Gives Try.prog 99 #[.int .i64 n, .int .i64 lo, .int .i64 hi] w (.bool (withinB n lo hi)) := by
  (unfold Gives; go_enter Try.func99, Try.ntmps99)
  go_wp2
  all_goals go_ret
  all_goals refine ⟨ret_bool ?_, Up.refl _⟩
  · rename_i h; simp [withinB, h]
  · rename_i h; simp [withinB]; omega

def fitsB (n : Int) : Bool := withinB n (-1152921504606846976) 1152921504606846976
theorem fits_any (n : Int) (w : World) : Gives Try.prog 97 #[.int .i64 n] w (.bool (fitsB n)) := by
  (unfold Gives; go_enter Try.func97, Try.ntmps97)
  go_wp2_with (go_at_call 99; refine (within_any _ _ _ _).mono ?_; intro _)
  go_ret
  exact ⟨rfl, _, rfl⟩

def checkE (lo hi : Int) : Int := if fitsB lo = true ∧ fitsB hi = true then (if hi < lo then 11 else 0) else 2
theorem check_any (lo hi : Int) (w : World) : Gives Try.prog 79 #[.agg #[.int .i64 lo, .int .i64 hi]] w (.int .i64 (checkE lo hi)) := by
  (unfold Gives; go_enter Try.func79, Try.ntmps79)
  go_wp2_with (go_at_call 97; refine (fits_any _ _).mono ?_; intro _)
  all_goals (go_ret; refine ⟨ret_int ?_, (by repeat (first | with_reducible exact Up.refl _ | with_reducible apply Up.plus | apply Up.ext | apply Up.alloc | apply Up.drew | (refine Up.setCell ?_ (by simp; try omega) _)))⟩)
  all_goals (go_light; first | (simp_all [checkE]; done) | (simp_all [checkE]; omega) | (simp_all [checkE]; repeat' split; all_goals (first | (simp_all; done) | omega | (simp_all; omega))))

def validE (a b c d : Int) : Int := if checkE a b = 0 then checkE c d else checkE a b
theorem valid_any (a b c d : Int) (w : World) : Gives Try.prog 85 #[.agg #[.int .i64 a, .int .i64 b], .agg #[.int .i64 c, .int .i64 d]] w (.int .i64 (validE a b c d)) := by
  (unfold Gives; go_enter Try.func85, Try.ntmps85)
  go_wp2_with (go_at_call 79; refine (check_any _ _ _).mono ?_; intro _)
  all_goals (go_ret; refine ⟨ret_int ?_, (by repeat (first | with_reducible exact Up.refl _ | with_reducible apply Up.plus | apply Up.ext | apply Up.alloc | apply Up.drew | (refine Up.setCell ?_ (by simp; try omega) _)))⟩)
  all_goals (go_light; first | (simp_all [validE]; done) | (simp_all [validE]; omega) | (simp_all [validE]; repeat' split; all_goals (first | (simp_all; done) | omega | (simp_all; omega))))

def inB (a b n : Int) : Bool := checkE a b == 0 && withinB n a b
theorem in_any (a b n : Int) (w : World) : Gives Try.prog 92 #[.agg #[.int .i64 a, .int .i64 b], .int .i64 n] w (.bool (inB a b n)) := by
  (unfold Gives; go_enter Try.func92, Try.ntmps92)
  go_wp2_with (first | (go_at_call 79; refine (check_any _ _ _).mono ?_; intro _) | (go_at_call 99; refine (within_any _ _ _ _).mono ?_; intro _))
  all_goals (go_ret; refine ⟨ret_bool ?_, (by repeat (first | with_reducible exact Up.refl _ | with_reducible apply Up.plus | apply Up.ext | apply Up.alloc | apply Up.drew | (refine Up.setCell ?_ (by simp; try omega) _)))⟩)
  all_goals (go_light; first | (simp_all [inB]; done) | (simp_all [inB]; omega) | (simp_all [inB]; repeat' split; all_goals (first | (simp_all; done) | omega | (simp_all; omega))))

def insideB (a b c d : Int) : Bool := validE a b c d == 0 && (decide (c ≤ a) && decide (b ≤ d))
theorem fits_iff (n : Int) : fitsB n = true ↔ -1152921504606846976 ≤ n ∧ n ≤ 1152921504606846976 := by simp [fitsB, withinB]
theorem check_zero {a b : Int} (h : checkE a b = 0) : -1152921504606846976 ≤ a ∧ a ≤ b ∧ b ≤ 1152921504606846976 := by
  unfold checkE at h
  split at h
  · rename_i h1; rw [fits_iff, fits_iff] at h1; split at h <;> omega
  · omega
theorem check_ok {a b : Int} (h0 : -1152921504606846976 ≤ a) (h1 : a ≤ b) (h2 : b ≤ 1152921504606846976) : checkE a b = 0 := by
  unfold checkE
  rw [if_pos ⟨(fits_iff _).2 (by omega), (fits_iff _).2 (by omega)⟩, if_neg (by omega)]

end Go.Proofs.Ytbcgdhldkanecaa
