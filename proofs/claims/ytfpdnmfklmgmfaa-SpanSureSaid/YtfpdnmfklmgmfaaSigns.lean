/- Signs of cross and dot products: those of the exact numbers, in the program and in the document. Numbers that fit 64 bits. -/
import Derived.Test.YtfpdnmfklmgmfaaRefB
namespace Go.Proofs.Ytfpdnmfklmgmfaa
open Go.RowKit

def sgnI (x : Int) : Int := if x < 0 then -1 else if x = 0 then 0 else 1

theorem mag_mul (a b : Int) : (a.natAbs : Int) * b.natAbs = ((a * b).natAbs : Int) := by rw [Int.natAbs_mul]; exact (Int.natCast_mul _ _).symm

theorem sgnW_eq (p : Int) (b : Bool) (hb : b = decide (p < 0) ∨ p = 0) : sgnW ((p.natAbs : Int) / 18446744073709551616) ((p.natAbs : Int) % 18446744073709551616) b = sgnI p := by
  unfold sgnW sgnI
  rcases hb with rfl | rfl
  · by_cases h : p < 0
    · rw [if_neg (by omega), if_pos (by simpa using h), if_pos h]
    · rw [if_neg h]
      by_cases h0 : p = 0
      · rw [if_pos (by omega), if_pos h0]
      · rw [if_neg (by omega), if_neg (by simpa using h), if_neg h0]
  · rfl

theorem cmpW_eq (p q : Int) (b b' : Bool) (hb : b = decide (p < 0) ∨ p = 0) (hb' : b' = decide (q < 0) ∨ q = 0) :
    cmpW ((p.natAbs : Int) / 18446744073709551616) ((p.natAbs : Int) % 18446744073709551616) b ((q.natAbs : Int) / 18446744073709551616) ((q.natAbs : Int) % 18446744073709551616) b' = sgnI (p - q) := by
  unfold cmpW
  rw [sgnW_eq p b hb, sgnW_eq q b' hb', less_split]
  simp only [decide_eq_true_eq]
  unfold sgnI
  split
  · split
    · split <;> (repeat' split) <;> omega
    · split <;> (repeat' split) <;> (repeat' split at *) <;> omega
  · (repeat' split) <;> (repeat' split at *) <;> omega

theorem crossV_eq (a b c d : Int) : crossV a b c d = sgnI (a * d - b * c) := by
  unfold crossV
  rw [mag_mul, mag_mul]
  exact cmpW_eq _ _ _ _ (sgn_product a d) (sgn_product b c)
theorem dotV_eq (a b c d : Int) : dotV a b c d = sgnI (a * c + b * d) := by
  unfold dotV
  rw [mag_mul, mag_mul, show a * c + b * d = a * c - -(b * d) by omega, show ((b * d).natAbs : Int) = ((-(b * d)).natAbs : Int) by omega]
  refine cmpW_eq _ _ _ _ (sgn_product a c) ?_
  rcases sgn_product b d with h | h
  · by_cases h0 : b * d = 0
    · right; omega
    · left
      rw [h, ← decide_not]
      exact decide_eq_decide.2 (by omega)
  · right; omega

theorem sgnI_bd (x : Int) : -1 ≤ sgnI x ∧ sgnI x ≤ 1 := by unfold sgnI; split <;> (try split) <;> omega

theorem orderW_eq (x y : Int) : orderW (x / 18446744073709551616) (x % 18446744073709551616) (y / 18446744073709551616) (y % 18446744073709551616) = sgnI (x - y) := by
  unfold orderW sgnI
  rw [less_split]
  simp only [decide_eq_true_eq]
  (repeat' split) <;> omega

def cmpR (n : Bool) (h l : Int) (n' : Bool) (h' l' : Int) : Int := if n = true ∧ n' = false then -1 else if n = false ∧ n' = true then 1 else if n = true then orderW h' l' h l else orderW h l h' l'
theorem rcompare_any (n n' : Bool) (h l h' l' : Int) (w : World) :
    Gives Try.prog 85 #[.agg #[.bool n, .int .u64 h, .int .u64 l], .agg #[.bool n', .int .u64 h', .int .u64 l']] w (.int .i64 (cmpR n h l n' h' l')) := by
  cases n <;> cases n' <;> simp only [cmpR, Bool.false_eq_true, Bool.true_eq_false, false_and, and_false, true_and, and_true, if_false, if_true, reduceCtorEq, and_self]
  all_goals (unfold Gives; go_enter Try.func85, Try.ntmps85)
  all_goals go_wp2_with (go_at_call 117; refine (rorder_any _ _ _ _ _ _ _).mono ?_; intro _)
  all_goals go_ret
  all_goals exact ⟨rfl, (by repeat (first | with_reducible exact Up.refl _ | apply Up.ext | apply Up.alloc | apply Up.drew | (refine Up.setCell ?_ (by simp; try omega) _)))⟩

theorem cmpR_eq (p q : Int) : cmpR (decide (p < 0)) ((p.natAbs : Int) / 18446744073709551616) ((p.natAbs : Int) % 18446744073709551616) (decide (q < 0)) ((q.natAbs : Int) / 18446744073709551616) ((q.natAbs : Int) % 18446744073709551616) = sgnI (p - q) := by
  unfold cmpR
  rw [orderW_eq, orderW_eq]
  simp only [decide_eq_true_eq, decide_eq_false_iff_not]
  unfold sgnI
  (repeat' split) <;> omega

theorem cross_sgn (a b c d : Int) (a0 : -9223372036854775808 ≤ a) (a1 : a ≤ 9223372036854775807) (b0 : -9223372036854775808 ≤ b) (b1 : b ≤ 9223372036854775807)
    (c0 : -9223372036854775808 ≤ c) (c1 : c ≤ 9223372036854775807) (d0 : -9223372036854775808 ≤ d) (d1 : d ≤ 9223372036854775807) (w : World) :
    Gives Try.prog 26 #[.agg #[.int .i64 a, .int .i64 b], .agg #[.int .i64 c, .int .i64 d]] w (.int .i64 (sgnI (a * d - b * c))) := by
  rw [← crossV_eq]; exact cross_any a b c d a0 a1 b0 b1 c0 c1 d0 d1 w
theorem dot_sgn (a b c d : Int) (a0 : -9223372036854775808 ≤ a) (a1 : a ≤ 9223372036854775807) (b0 : -9223372036854775808 ≤ b) (b1 : b ≤ 9223372036854775807)
    (c0 : -9223372036854775808 ≤ c) (c1 : c ≤ 9223372036854775807) (d0 : -9223372036854775808 ≤ d) (d1 : d ≤ 9223372036854775807) (w : World) :
    Gives Try.prog 28 #[.agg #[.int .i64 a, .int .i64 b], .agg #[.int .i64 c, .int .i64 d]] w (.int .i64 (sgnI (a * c + b * d))) := by
  rw [← dotV_eq]; exact dot_any a b c d a0 a1 b0 b1 c0 c1 d0 d1 w

theorem rwide_sgn (a b : Int) (ha0 : -9223372036854775808 ≤ a) (ha1 : a ≤ 9223372036854775807) (hb0 : -9223372036854775808 ≤ b) (hb1 : b ≤ 9223372036854775807) (w : World) :
    Gives Try.prog 84 #[.int .i64 a, .int .i64 b] w
      (.agg #[.bool (decide (a * b < 0)), .int .u64 (((a * b).natAbs : Int) / 18446744073709551616), .int .u64 (((a * b).natAbs : Int) % 18446744073709551616)]) := by
  rw [← mag_mul]; exact rwide_any a b ha0 ha1 hb0 hb1 w

theorem rcross_sgn (a b c d : Int) (a0 : -9223372036854775808 ≤ a) (a1 : a ≤ 9223372036854775807) (b0 : -9223372036854775808 ≤ b) (b1 : b ≤ 9223372036854775807)
    (c0 : -9223372036854775808 ≤ c) (c1 : c ≤ 9223372036854775807) (d0 : -9223372036854775808 ≤ d) (d1 : d ≤ 9223372036854775807) (w : World) :
    Gives Try.prog 27 #[.agg #[.int .i64 a, .int .i64 b], .agg #[.int .i64 c, .int .i64 d]] w (.int .i64 (sgnI (a * d - b * c))) := by
  rw [← cmpR_eq]
  (unfold Gives; go_enter Try.func27, Try.ntmps27)
  go_wp2
  ((first | with_reducible refine wp_region_ext2 (by kernel_rfl) (by kernel_rfl) ?_ | refine wp_region_ext (by kernel_rfl) (by kernel_rfl) ?_); (repeat (go_big_quiet_step ((first | (go_at_call 84; exact Gives.inRegion (rwide_sgn _ _ (by omega) (by omega) (by omega) (by omega) _)) | (go_at_call 85; exact Gives.inRegion (rcompare_any _ _ _ _ _ _ _)))))); refine wpQuiet_nil ?_; intro _ hw'; obtain ⟨_, hw''⟩ := hw'; subst hw'')
  go_wp2
  go_ret
  exact ⟨rfl, (by repeat (first | with_reducible exact Up.refl _ | apply Up.ext | apply Up.alloc | apply Up.drew | (refine Up.setCell ?_ (by simp; try omega) _)))⟩

theorem rdot_sgn (a b c d : Int) (a0 : -9223372036854775808 ≤ a) (a1 : a ≤ 9223372036854775807) (b0 : -9223372036854775808 ≤ b) (b1 : b ≤ 9223372036854775807)
    (c0 : -9223372036854775808 ≤ c) (c1 : c ≤ 9223372036854775807) (d0 : -9223372036854775808 ≤ d) (d1 : d ≤ 9223372036854775807) (w : World) :
    Gives Try.prog 29 #[.agg #[.int .i64 a, .int .i64 b], .agg #[.int .i64 c, .int .i64 d]] w (.int .i64 (sgnI (a * c + b * d))) := by
  have hn : decide (-(b * d) < 0) = (!decide (b * d < 0) && (decide (0 < ((b * d).natAbs : Int) / 18446744073709551616) || decide (0 < ((b * d).natAbs : Int) % 18446744073709551616))) := by
    rw [← Bool.decide_or, ← decide_not, ← Bool.decide_and]
    exact decide_eq_decide.2 (by omega)
  have HN := hide hn
  clear hn
  rw [show a * c + b * d = a * c - -(b * d) by omega, ← cmpR_eq, HN.out, show ((-(b * d)).natAbs : Int) = ((b * d).natAbs : Int) by omega]
  obtain ⟨n, hn⟩ : ∃ n, decide (b * d < 0) = n := ⟨_, rfl⟩
  rw [hn]
  have H := fun w => rwide_sgn b d b0 b1 d0 d1 w
  rw [hn] at H
  have K := hide H
  clear hn H HN
  (unfold Gives; go_enter Try.func29, Try.ntmps29)
  go_wp2_with (go_at_call 84; refine (K.out _).mono ?_; intro _)
  all_goals ((first | with_reducible refine wp_region_ext2 (by kernel_rfl) (by kernel_rfl) ?_ | refine wp_region_ext (by kernel_rfl) (by kernel_rfl) ?_); (repeat (go_big_quiet_step ((first | (go_at_call 84; exact Gives.inRegion (rwide_sgn _ _ (by omega) (by omega) (by omega) (by omega) _)) | (go_at_call 85; exact Gives.inRegion (rcompare_any _ _ _ _ _ _ _)))))); refine wpQuiet_nil ?_; intro _ hw'; obtain ⟨_, hw''⟩ := hw'; subst hw'')
  all_goals go_wp2
  all_goals (go_ret; refine ⟨ret_int ?_, (by repeat (first | with_reducible exact Up.refl _ | apply Up.ext | apply Up.alloc | apply Up.drew | (refine Up.setCell ?_ (by simp; try omega) _)))⟩)
  all_goals simp_all
end Go.Proofs.Ytfpdnmfklmgmfaa
