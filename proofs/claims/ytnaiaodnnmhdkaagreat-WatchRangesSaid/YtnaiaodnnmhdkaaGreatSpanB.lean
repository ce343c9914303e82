/- Several texts in one. -/
import Derived.Test.YtnaiaodnnmhdkaaGreatComb
import Derived.Test.YtnaiaodnnmhdkaaGreatSpanD
import Derived.Deep.DeepCutAuto
import Derived.Test.YtnaiaodnnmhdkaaGreatRoot
import Derived.Laws.Bits64b
import Derived.Test.YtnaiaodnnmhdkaaGreatSkyP
/- Sums, differences, products, squares and quotients of spans. No conditions. -/
namespace Go.Proofs.YtnaiaodnnmhdkaaGreat
set_option linter.unusedVariables false
set_option linter.unusedSimpArgs false
open Go.RowKit

def endsS (lo hi : Int) : Int × Int × Int := if fitsB lo = true ∧ fitsB hi = true then (lo, hi, 0) else (0, 0, 14)
theorem ends_any (lo hi : Int) (w : World) : Gives Tryz.prog 269 #[.int .i64 lo, .int .i64 hi] w (.tuple #[.agg #[.int .i64 (endsS lo hi).1, .int .i64 (endsS lo hi).2.1], .int .i64 (endsS lo hi).2.2]) := by
  (unfold Gives; go_enter Tryz.func269, Tryz.ntmps269)
  go_wp2_with (go_at_call 217; refine (fits_any _ _).mono ?_; intro _)
  all_goals (refine bodyPost_give (by repeat (first | with_reducible exact Up.refl _ | with_reducible apply Up.plus | apply Up.ext | apply Up.alloc | apply Up.drew | (refine Up.setCell ?_ (by simp; try omega) _))) rfl ⟨_, (by simp [results, Tryz.results269, go_sem]; rfl), ?_⟩)
  all_goals (go_light; first | (simp_all [endsS]; done) | (simp_all [endsS]; omega) | (simp_all [endsS]; repeat' split; all_goals (first | (simp_all; done) | omega | (simp_all; omega))))

theorem valid_zero {a b c d : Int} (h : validE a b c d = 0) : checkE a b = 0 ∧ checkE c d = 0 := by
  unfold validE at h
  split at h
  · exact ⟨by assumption, h⟩
  · exact absurd h (by assumption)

def addS (a b c d : Int) : Int × Int × Int := if validE a b c d = 0 then endsS (a + c) (b + d) else (0, 0, validE a b c d)
theorem add_any (a b c d : Int) (w : World) : Gives Tryz.prog 251 #[.agg #[.int .i64 a, .int .i64 b], .agg #[.int .i64 c, .int .i64 d]] w
    (.tuple #[.agg #[.int .i64 (addS a b c d).1, .int .i64 (addS a b c d).2.1], .int .i64 (addS a b c d).2.2]) := by
  by_cases hv : validE a b c d = 0
  · obtain ⟨h1, h2⟩ := valid_zero hv
    obtain ⟨a0, a1, a2⟩ := check_zero h1
    obtain ⟨c0, c1, c2⟩ := check_zero h2
    have hvb : (validE a b c d != 0) = false := by simp [hv]
    rw [show addS a b c d = endsS (a + c) (b + d) by unfold addS; rw [if_pos hv]]
    clear h1 h2 hv
    (unfold Gives; go_enter Tryz.func251, Tryz.ntmps251)
    go_wp2_with (first | (go_at_call 170; refine (valid_any _ _ _ _ _).mono ?_; intro _) | (go_at_call 269; refine (ends_any _ _ _).mono ?_; intro _))
    all_goals (refine bodyPost_give (by repeat (first | with_reducible exact Up.refl _ | with_reducible apply Up.plus | apply Up.ext | apply Up.alloc | apply Up.drew | (refine Up.setCell ?_ (by simp; try omega) _))) rfl ⟨_, (by simp [results, Tryz.results251, go_sem]; rfl), ?_⟩)
    all_goals rfl
  · have hvb : (validE a b c d != 0) = true := by simp [hv]
    rw [show addS a b c d = (0, 0, validE a b c d) by unfold addS; rw [if_neg hv]]
    clear hv
    (unfold Gives; go_enter Tryz.func251, Tryz.ntmps251)
    go_wp2_with (go_at_call 170; refine (valid_any _ _ _ _ _).mono ?_; intro _)
    all_goals (refine bodyPost_give (by repeat (first | with_reducible exact Up.refl _ | with_reducible apply Up.plus | apply Up.ext | apply Up.alloc | apply Up.drew | (refine Up.setCell ?_ (by simp; try omega) _))) rfl ⟨_, (by simp [results, Tryz.results251, go_sem]; rfl), ?_⟩)
    all_goals rfl

def subS (a b c d : Int) : Int × Int × Int := if validE a b c d = 0 then endsS (a - d) (b - c) else (0, 0, validE a b c d)
theorem sub_any (a b c d : Int) (w : World) : Gives Tryz.prog 277 #[.agg #[.int .i64 a, .int .i64 b], .agg #[.int .i64 c, .int .i64 d]] w
    (.tuple #[.agg #[.int .i64 (subS a b c d).1, .int .i64 (subS a b c d).2.1], .int .i64 (subS a b c d).2.2]) := by
  by_cases hv : validE a b c d = 0
  · obtain ⟨h1, h2⟩ := valid_zero hv
    obtain ⟨a0, a1, a2⟩ := check_zero h1
    obtain ⟨c0, c1, c2⟩ := check_zero h2
    have hvb : (validE a b c d != 0) = false := by simp [hv]
    rw [show subS a b c d = endsS (a - d) (b - c) by unfold subS; rw [if_pos hv]]
    clear h1 h2 hv
    (unfold Gives; go_enter Tryz.func277, Tryz.ntmps277)
    go_wp2_with (first | (go_at_call 170; refine (valid_any _ _ _ _ _).mono ?_; intro _) | (go_at_call 269; refine (ends_any _ _ _).mono ?_; intro _))
    all_goals (refine bodyPost_give (by repeat (first | with_reducible exact Up.refl _ | with_reducible apply Up.plus | apply Up.ext | apply Up.alloc | apply Up.drew | (refine Up.setCell ?_ (by simp; try omega) _))) rfl ⟨_, (by simp [results, Tryz.results277, go_sem]; rfl), ?_⟩)
    all_goals rfl
  · have hvb : (validE a b c d != 0) = true := by simp [hv]
    rw [show subS a b c d = (0, 0, validE a b c d) by unfold subS; rw [if_neg hv]]
    clear hv
    (unfold Gives; go_enter Tryz.func277, Tryz.ntmps277)
    go_wp2_with (go_at_call 170; refine (valid_any _ _ _ _ _).mono ?_; intro _)
    all_goals (refine bodyPost_give (by repeat (first | with_reducible exact Up.refl _ | with_reducible apply Up.plus | apply Up.ext | apply Up.alloc | apply Up.drew | (refine Up.setCell ?_ (by simp; try omega) _))) rfl ⟨_, (by simp [results, Tryz.results277, go_sem]; rfl), ?_⟩)
    all_goals rfl

theorem mul1_any (x y : Int) (x0 : -1152921504606846976 ≤ x) (x1 : x ≤ 1152921504606846976) (y0 : -1152921504606846976 ≤ y) (y1 : y ≤ 1152921504606846976) (w : World) :
    Gives Tryz.prog 283 #[.int .i64 x, .int .i64 y] w (.tuple #[.int .i64 (mdE (x * y) 1).1, .int .i64 (mdE (x * y) 1).2.1, .int .i64 (mdE (x * y) 1).2.2]) := by
  (unfold Gives; go_enter Tryz.func283, Tryz.ntmps283)
  go_wp2_with (first | (go_at_call 278; refine (product_any _ _ (by omega) (by omega) (by omega) (by omega) _).mono ?_; intro _) | (go_at_call 279; refine (product_divide _ _ 1 (by omega) (by omega) (by omega) (by omega) (by omega) (by omega) (by omega) _).mono ?_; intro _))
  go_ret3
  exact ⟨rfl, (by repeat (first | with_reducible exact Up.refl _ | with_reducible apply Up.plus | apply Up.ext | apply Up.alloc | apply Up.drew | (refine Up.setCell ?_ (by simp; try omega) _)))⟩

theorem divW_one (x y : Int) (hy : y ≠ 0) : divW ((x.natAbs : Int) / 18446744073709551616) ((x.natAbs : Int) % 18446744073709551616) (decide (x < 0)) y = mdE x y := by
  have h := divW_product x 1 y hy
  rw [show ((1 : Int).natAbs : Int) = 1 from rfl, Int.mul_one, Int.mul_one, show (decide (x < 0) != decide ((1 : Int) < 0)) = decide (x < 0) by simp] at h
  exact h
theorem product_one (x : Int) (x0 : -1152921504606846976 ≤ x) (x1 : x ≤ 1152921504606846976) (w : World) : Gives Tryz.prog 278 #[.int .i64 x, .int .i64 1] w
    (.agg #[.int .u64 ((x.natAbs : Int) / 18446744073709551616), .int .u64 ((x.natAbs : Int) % 18446744073709551616), .bool (decide (x < 0))]) := by
  have h := product_any x 1 (by omega) (by omega) (by omega) (by omega) w
  rw [show ((1 : Int).natAbs : Int) = 1 from rfl, Int.mul_one, show (decide (x < 0) != decide ((1 : Int) < 0)) = decide (x < 0) by simp] at h
  exact h

theorem quot1_any (x y : Int) (x0 : -1152921504606846976 ≤ x) (x1 : x ≤ 1152921504606846976) (y0 : -1152921504606846976 ≤ y) (y1 : y ≤ 1152921504606846976) (hy : y ≠ 0) (w : World) :
    Gives Tryz.prog 282 #[.int .i64 x, .int .i64 y] w (.tuple #[.int .i64 (mdE x y).1, .int .i64 (mdE x y).2.1, .int .i64 (mdE x y).2.2]) := by
  rw [← divW_one x y hy]
  clear hy
  (unfold Gives; go_enter Tryz.func282, Tryz.ntmps282)
  go_wp2_with (first | (go_at_call 278; refine (product_one _ x0 x1 _).mono ?_; intro _) | (go_at_call 279; refine (divide_any _ _ _ _ (by omega) (by omega) (by omega) (by omega) (by omega) (by omega) _).mono ?_; intro _))
  go_ret3
  exact ⟨rfl, (by repeat (first | with_reducible exact Up.refl _ | with_reducible apply Up.plus | apply Up.ext | apply Up.alloc | apply Up.drew | (refine Up.setCell ?_ (by simp; try omega) _)))⟩

theorem mem_four {a b c d : Int} {x : Int × Int} (h : x ∈ four a b c d) : (x.1 = a ∨ x.1 = b) ∧ (x.2 = c ∨ x.2 = d) := by
  simp [four] at h
  rcases h with rfl | rfl | rfl | rfl <;> simp

def mulS (a b c d : Int) : Int × Int × Int := combE (fun x y => mdE (x * y) 1) a b c d
theorem mul_any (a b c d : Int) (w : World) : Gives Tryz.prog 271 #[.agg #[.int .i64 a, .int .i64 b], .agg #[.int .i64 c, .int .i64 d]] w
    (.tuple #[.agg #[.int .i64 (mulS a b c d).1, .int .i64 (mulS a b c d).2.1], .int .i64 (mulS a b c d).2.2]) := by
  have hc := fun W => combine_any 283 (fun x y => mdE (x * y) 1) (enters_of Tryz.func283 (by kernel_rfl) rfl) a b c d (fun hv x hx W => by
    obtain ⟨h1, h2⟩ := valid_zero hv
    obtain ⟨a0, a1, a2⟩ := check_zero h1
    obtain ⟨c0, c1, c2⟩ := check_zero h2
    obtain ⟨h3, h4⟩ := mem_four hx
    exact mul1_any x.1 x.2 (by omega) (by omega) (by omega) (by omega) W) W
  have HC := hide hc
  clear hc
  unfold mulS
  (unfold Gives; go_enter Tryz.func271, Tryz.ntmps271)
  go_wp2_with (go_at_call 281; refine (HC.out _).mono ?_; intro _)
  all_goals (refine bodyPost_give (by repeat (first | with_reducible exact Up.refl _ | with_reducible apply Up.plus | apply Up.ext | apply Up.alloc | apply Up.drew | (refine Up.setCell ?_ (by simp; try omega) _))) rfl ⟨_, (by simp [results, Tryz.results271, go_sem]; rfl), ?_⟩)
  all_goals rfl

def quotS (a b c d : Int) : Int × Int × Int := if validE a b c d = 0 then (if c ≤ 0 ∧ 0 ≤ d then (0, 0, 2) else combE (fun x y => mdE x y) a b c d) else (0, 0, validE a b c d)
theorem quot_any (a b c d : Int) (w : World) : Gives Tryz.prog 270 #[.agg #[.int .i64 a, .int .i64 b], .agg #[.int .i64 c, .int .i64 d]] w
    (.tuple #[.agg #[.int .i64 (quotS a b c d).1, .int .i64 (quotS a b c d).2.1], .int .i64 (quotS a b c d).2.2]) := by
  by_cases hv : validE a b c d = 0
  · have hvb : (validE a b c d != 0) = false := by simp [hv]
    obtain ⟨h1, h2⟩ := valid_zero hv
    obtain ⟨c0, c1, c2⟩ := check_zero h2
    by_cases hz : c ≤ 0 ∧ 0 ≤ d
    · have hin : inB c d 0 = true := by simp [inB, h2, withinB, hz]
      rw [show quotS a b c d = (0, 0, 2) by unfold quotS; rw [if_pos hv, if_pos hz]]
      clear hz h1 h2 hv c1
      (unfold Gives; go_enter Tryz.func270, Tryz.ntmps270)
      go_wp2_with (first | (go_at_call 170; refine (valid_any _ _ _ _ _).mono ?_; intro _) | (go_at_call 280; refine (in_any _ _ _ _).mono ?_; intro _))
      all_goals (refine bodyPost_give (by repeat (first | with_reducible exact Up.refl _ | with_reducible apply Up.plus | apply Up.ext | apply Up.alloc | apply Up.drew | (refine Up.setCell ?_ (by simp; try omega) _))) rfl ⟨_, (by simp [results, Tryz.results270, go_sem]; rfl), ?_⟩)
      all_goals rfl
    · have hin : inB c d 0 = false := by simp [inB, h2, withinB]; omega
      have hc := fun W => combine_any 282 (fun x y => mdE x y) (enters_of Tryz.func282 (by kernel_rfl) rfl) a b c d (fun hv x hx W => by
        obtain ⟨a0, a1, a2⟩ := check_zero h1
        obtain ⟨h3, h4⟩ := mem_four hx
        exact quot1_any x.1 x.2 (by omega) (by omega) (by omega) (by omega) (by omega) W) W
      have HC := hide hc
      rw [show quotS a b c d = combE (fun x y => mdE x y) a b c d by unfold quotS; rw [if_pos hv, if_neg hz]]
      clear hz h1 h2 hv c1 hc
      (unfold Gives; go_enter Tryz.func270, Tryz.ntmps270)
      go_wp2_with (first | (go_at_call 170; refine (valid_any _ _ _ _ _).mono ?_; intro _) | (go_at_call 280; refine (in_any _ _ _ _).mono ?_; intro _) | (go_at_call 281; refine (HC.out _).mono ?_; intro _))
      all_goals (refine bodyPost_give (by repeat (first | with_reducible exact Up.refl _ | with_reducible apply Up.plus | apply Up.ext | apply Up.alloc | apply Up.drew | (refine Up.setCell ?_ (by simp; try omega) _))) rfl ⟨_, (by simp [results, Tryz.results270, go_sem]; rfl), ?_⟩)
      all_goals rfl
  · have hvb : (validE a b c d != 0) = true := by simp [hv]
    rw [show quotS a b c d = (0, 0, validE a b c d) by unfold quotS; rw [if_neg hv]]
    clear hv
    (unfold Gives; go_enter Tryz.func270, Tryz.ntmps270)
    go_wp2_with (go_at_call 170; refine (valid_any _ _ _ _ _).mono ?_; intro _)
    all_goals (refine bodyPost_give (by repeat (first | with_reducible exact Up.refl _ | with_reducible apply Up.plus | apply Up.ext | apply Up.alloc | apply Up.drew | (refine Up.setCell ?_ (by simp; try omega) _))) rfl ⟨_, (by simp [results, Tryz.results270, go_sem]; rfl), ?_⟩)
    all_goals rfl

def squareS (a b : Int) : Int × Int × Int :=
  if checkE a b = 0 then (if 1073741824 < max (-a) b then (0, 0, 14) else endsS (max (max 0 a) (-b) * max (max 0 a) (-b)) (max (-a) b * max (-a) b)) else (0, 0, checkE a b)
theorem sq_bound (m : Int) (h0 : 0 ≤ m) (h1 : m ≤ 1073741824) : 0 ≤ m * m ∧ m * m ≤ 1152921504606846976 :=
  ⟨Int.mul_nonneg h0 h0, by have := Int.mul_le_mul h1 h1 h0 (by omega); omega⟩
theorem wrap64_id {n : Int} (h0 : -9223372036854775808 ≤ n) (h1 : n ≤ 9223372036854775807) : wrap64 n = n := by unfold wrap64; omega
theorem square_any (a b : Int) (w : World) : Gives Tryz.prog 275 #[.agg #[.int .i64 a, .int .i64 b]] w
    (.tuple #[.agg #[.int .i64 (squareS a b).1, .int .i64 (squareS a b).2.1], .int .i64 (squareS a b).2.2]) := by
  by_cases hv : checkE a b = 0
  · obtain ⟨a0, a1, a2⟩ := check_zero hv
    have hvb : (checkE a b != 0) = false := by simp [hv]
    have HE : squareS a b = if 1073741824 < max (-a) b then (0, 0, 14) else endsS (max (max 0 a) (-b) * max (max 0 a) (-b)) (max (-a) b * max (-a) b) := by unfold squareS; rw [if_pos hv]
    rw [HE]
    clear HE hv
    (unfold Gives; go_enter Tryz.func275, Tryz.ntmps275)
    go_wp2_with (go_at_call 193; refine (check_any _ _ _).mono ?_; intro _)
    go_region
    all_goals (go_wp2_with (go_at_call 269; refine (ends_any _ _ _).mono ?_; intro _))
    · (refine bodyPost_give (by repeat (first | with_reducible exact Up.refl _ | with_reducible apply Up.plus | apply Up.ext | apply Up.alloc | apply Up.drew | (refine Up.setCell ?_ (by simp; try omega) _))) rfl ⟨_, (by simp [results, Tryz.results275, go_sem]; rfl), ?_⟩)
      rfl
    · (refine bodyPost_give (by repeat (first | with_reducible exact Up.refl _ | with_reducible apply Up.plus | apply Up.ext | apply Up.alloc | apply Up.drew | (refine Up.setCell ?_ (by simp; try omega) _))) rfl ⟨_, (by simp [results, Tryz.results275, go_sem]; rfl), ?_⟩)
      have h1 := sq_bound (max 0 (max a (-b))) (by omega) (by omega)
      have h2 := sq_bound (max (-a) b) (by omega) (by omega)
      rw [wrap64_id (by omega) (by omega), wrap64_id (by omega) (by omega)]
  · have hvb : (checkE a b != 0) = true := by simp [hv]
    rw [show squareS a b = (0, 0, checkE a b) by unfold squareS; rw [if_neg hv]]
    clear hv
    (unfold Gives; go_enter Tryz.func275, Tryz.ntmps275)
    go_wp2_with (go_at_call 193; refine (check_any _ _ _).mono ?_; intro _)
    all_goals (refine bodyPost_give (by repeat (first | with_reducible exact Up.refl _ | with_reducible apply Up.plus | apply Up.ext | apply Up.alloc | apply Up.drew | (refine Up.setCell ?_ (by simp; try omega) _))) rfl ⟨_, (by simp [results, Tryz.results275, go_sem]; rfl), ?_⟩)
    all_goals rfl
end Go.Proofs.YtnaiaodnnmhdkaaGreat

/- Places: are their numbers in range, lengths, crosses and dots. -/
namespace Go.Proofs.YtnaiaodnnmhdkaaGreat
set_option linter.unusedVariables false
set_option linter.unusedSimpArgs false
open Go.RowKit

def farB (n : Int) : Bool := withinB n (-268435456) 268435456
theorem far_list (s : Nat) (l : List Int) (w : World) (hs : s < w.heap.size) (hn : l.length ≤ 16) (hc : ∀ k, (h : k < l.length) → w.cell? ⟨s, k, none⟩ = some (.int .i64 l[k])) :
    Gives Tryz.prog 247 #[.slice (some ⟨s, 0, none⟩) l.length l.length] w (.bool (l.all farB)) := by
  have HC := hide hc
  clear hc
  (unfold Gives; go_enter Tryz.func247, Tryz.ntmps247)
  go_wp2
  go_loopw [7] (fun i wr => ∃ k : Nat, k ≤ l.length ∧ i = .int .i64 k ∧ Up w wr ∧ Hid ((l.take k).all farB = true)) (fun i _ => l.length - (intOf i).toNat)
  case atStart => exact ⟨0, by omega, rfl, Up.refl _, by simp [hide]⟩
  case round =>
    obtain ⟨k, hk, rfl, ⟨p, rfl⟩, ht⟩ := hrel
    by_cases hlt : k < l.length
    · have hkb : decide ((k : Int) < l.length) = true := by simp; omega
      have hcell := HC.out k hlt
      go_wp2_with (go_at_call 237; refine (within_any _ _ _ _).mono ?_; intro _)
      · have hf : farB l[k] = false := by simpa [farB] using (by assumption : (!withinB l[k] (-268435456) 268435456) = true)
        go_ret
        refine ⟨ret_bool ?_, (by repeat (first | with_reducible exact Up.refl _ | with_reducible apply Up.plus | apply Up.ext | apply Up.alloc | apply Up.drew | (refine Up.setCell ?_ (by simp; try omega) _)))⟩
        refine (Bool.eq_false_iff.2 ?_).symm
        intro h
        rw [List.all_eq_true] at h
        rw [h _ (List.getElem_mem hlt)] at hf
        cases hf
      · have hf : farB l[k] = true := by simpa [farB] using (by assumption : (!withinB l[k] (-268435456) 268435456) = false)
        refine ⟨⟨k + 1, by omega, by go_num, (by repeat (first | with_reducible exact Up.refl _ | with_reducible apply Up.plus | apply Up.ext | apply Up.alloc | apply Up.drew | (refine Up.setCell ?_ (by simp; try omega) _))), ?_⟩, by simp [intOf]; omega⟩
        refine hide ?_
        rw [← List.take_append_getElem hlt, List.all_append, ht.out]
        simp [hf]
    · have hkb : decide ((k : Int) < l.length) = false := by simp; omega
      go_wp2
      go_ret
      refine ⟨ret_bool ?_, (by repeat (first | with_reducible exact Up.refl _ | with_reducible apply Up.plus | apply Up.ext | apply Up.alloc | apply Up.drew | (refine Up.setCell ?_ (by simp; try omega) _)))⟩
      have := ht.out
      rw [List.take_of_length_le (by omega)] at this
      exact this.symm

/-- all numbers of a place are in range -/
def farV (p : Int × Int) : Bool := farB p.1 && farB p.2
theorem far2 {s : Nat} (t : TypeId) (x y : Int) (w : World) (hs : s = w.heap.size) :
    Gives Tryz.prog 247 #[.slice (some ⟨s, 0, none⟩) 2 2] (w.alloc (.cells #[.int .i64 x, .int .i64 y] t)) (.bool (farV (x, y))) := by
  have hb : Box (w.alloc (.cells #[.int .i64 x, .int .i64 y] t)) s #[.int .i64 x, .int .i64 y] t := Box.mk hs.symm
  have h := far_list s [x, y] _ hb.lt (by simp) (fun k hk => by
    have : k = 0 ∨ k = 1 := by simp at hk; omega
    rcases this with rfl | rfl
    · exact hb.cell 0 rfl
    · exact hb.cell 1 rfl)
  simpa [farV] using h
def farA (a b c d : Int) : Bool := farB a && (farB b && (farB c && farB d))
theorem far4 {s : Nat} (t : TypeId) (a b c d : Int) (w : World) (hs : s = w.heap.size) :
    Gives Tryz.prog 247 #[.slice (some ⟨s, 0, none⟩) 4 4] (w.alloc (.cells #[.int .i64 a, .int .i64 b, .int .i64 c, .int .i64 d] t)) (.bool (farA a b c d)) := by
  have hb : Box (w.alloc (.cells #[.int .i64 a, .int .i64 b, .int .i64 c, .int .i64 d] t)) s #[.int .i64 a, .int .i64 b, .int .i64 c, .int .i64 d] t := Box.mk hs.symm
  have h := far_list s [a, b, c, d] _ hb.lt (by simp) (fun k hk => by
    have : k = 0 ∨ k = 1 ∨ k = 2 ∨ k = 3 := by simp at hk; omega
    rcases this with rfl | rfl | rfl | rfl
    · exact hb.cell 0 rfl
    · exact hb.cell 1 rfl
    · exact hb.cell 2 rfl
    · exact hb.cell 3 rfl)
  simpa [farA] using h

def areaE (a b c d : Int) : Int := if validE a b c d = 0 then (if farA a b c d = true then 0 else 2) else validE a b c d
theorem checkarea_any (a b c d : Int) (w : World) : Gives Tryz.prog 230 #[.agg #[.int .i64 a, .int .i64 b, .int .i64 c, .int .i64 d]] w (.int .i64 (areaE a b c d)) := by
  (unfold Gives; go_enter Tryz.func230, Tryz.ntmps230)
  go_wp2_with (first | (go_at_call 170; refine (valid_any _ _ _ _ _).mono ?_; intro _) | (go_at_call 247; refine (far4 _ _ _ _ _ _ (by simp)).mono ?_; intro _))
  all_goals (go_ret; refine ⟨ret_int ?_, (by repeat (first | with_reducible exact Up.refl _ | with_reducible apply Up.plus | apply Up.ext | apply Up.alloc | apply Up.drew | (refine Up.setCell ?_ (by simp; try omega) _)))⟩)
  all_goals (go_light; first | (simp_all [areaE]; done) | (simp_all [areaE]; omega) | (simp_all [areaE]; repeat' split; all_goals (first | (simp_all; done) | omega | (simp_all; omega))))

def asks2B (x y u v r : Int) : Bool := farV (x, y) && farV (u, v) && withinB r 0 268435456
/-- the sign of the cross product, as the program reckons it -/
def crossV (a b c d : Int) : Int := cmpW ((a.natAbs : Int) * d.natAbs / 18446744073709551616) ((a.natAbs : Int) * d.natAbs % 18446744073709551616) (decide (a < 0) != decide (d < 0)) ((b.natAbs : Int) * c.natAbs / 18446744073709551616) ((b.natAbs : Int) * c.natAbs % 18446744073709551616) (decide (b < 0) != decide (c < 0))
/-- the sign of the dot product, likewise -/
def dotV (a b c d : Int) : Int := cmpW ((a.natAbs : Int) * c.natAbs / 18446744073709551616) ((a.natAbs : Int) * c.natAbs % 18446744073709551616) (decide (a < 0) != decide (c < 0)) ((b.natAbs : Int) * d.natAbs / 18446744073709551616) ((b.natAbs : Int) * d.natAbs % 18446744073709551616) (!(decide (b < 0) != decide (d < 0)))
end Go.Proofs.YtnaiaodnnmhdkaaGreat

/- Segments: how near they come to the origin. Numbers within 2^28. -/
namespace Go.Proofs.YtnaiaodnnmhdkaaGreat
set_option linter.unusedVariables false
set_option linter.unusedSimpArgs false
open Go.RowKit

theorem far_iff (n : Int) : farB n = true ↔ -268435456 ≤ n ∧ n ≤ 268435456 := by simp [farB, withinB]
theorem farV_iff (p : Int × Int) : farV p = true ↔ (-268435456 ≤ p.1 ∧ p.1 ≤ 268435456) ∧ (-268435456 ≤ p.2 ∧ p.2 ≤ 268435456) := by simp [farV, far_iff]

theorem mul_self_nonneg (x : Int) : 0 ≤ x * x := by
  rcases Int.le_total 0 x with h | h
  · exact Int.mul_nonneg h h
  · exact Int.mul_nonneg_of_nonpos_of_nonpos h h
def sqV (x y : Int) : Int := x * x + y * y
theorem mul_bd {x y B C : Int} (x0 : -B ≤ x) (x1 : x ≤ B) (y0 : -C ≤ y) (y1 : y ≤ C) : -(B * C) ≤ x * y ∧ x * y ≤ B * C := by
  constructor
  · rcases Int.le_total 0 x with h | h
    · have h1 := Int.mul_le_mul_of_nonneg_left y0 h
      have h2 := Int.mul_le_mul_of_nonneg_right x1 (show 0 ≤ C by omega)
      rw [Int.mul_neg] at h1; omega
    · have h1 := Int.mul_le_mul_of_nonpos_left h y1
      have h2 := Int.mul_le_mul_of_nonneg_right x0 (show 0 ≤ C by omega)
      rw [Int.neg_mul] at h2; omega
  · rcases Int.le_total 0 x with h | h
    · have h1 := Int.mul_le_mul_of_nonneg_left y1 h
      have h2 := Int.mul_le_mul_of_nonneg_right x1 (show 0 ≤ C by omega)
      omega
    · have h1 := Int.mul_le_mul_of_nonpos_left h y0
      have h2 := Int.mul_le_mul_of_nonneg_right x0 (show 0 ≤ C by omega)
      rw [Int.neg_mul] at h2; rw [Int.mul_neg] at h1; omega

def nearB (x y r : Int) : Bool := farV (x, y) && withinB r 0 268435456 && decide (sqV x y ≤ r * r)
/-- whether the segment from p to q comes within r of the origin -/
def comesB (px py qx qy r : Int) : Bool :=
  if 0 ≤ px * (qx - px) + py * (qy - py) then decide (sqV px py ≤ r * r)
  else if qx * (qx - px) + qy * (qy - py) ≤ 0 then decide (sqV qx qy ≤ r * r)
  else decide ((px * qy - py * qx) * (px * qy - py * qx) ≤ r * r * sqV (qx - px) (qy - py))

theorem less_split (x y : Int) : lessW (x / 18446744073709551616) (x % 18446744073709551616) (y / 18446744073709551616) (y % 18446744073709551616) = decide (x < y) := by
  unfold lessW
  exact decide_eq_decide.2 (by omega)

def withinS (px py qx qy r : Int) : Bool := asks2B px py qx qy r && comesB px py qx qy r
end Go.Proofs.YtnaiaodnnmhdkaaGreat

/- The whole root of a number and of a span: the program's. -/
namespace Go.Proofs.YtnaiaodnnmhdkaaGreat
set_option linter.unusedVariables false
set_option linter.unusedSimpArgs false
open Go.RowKit

theorem RootAt.lt {n o B : Int} (h : RootAt n o B) (h1 : n < 18446744073709551616) : 0 ≤ B ∧ o + 2 * B ≤ 4294967296 := by
  obtain ⟨h2, h3, h4⟩ := h
  rcases h4 with ⟨rfl, h4⟩ | ⟨j, hj, rfl, hc, h5, h6⟩
  · have := lt_of_sq (a := o) (b := 4294967296) (by omega) (by omega)
    omega
  · have := Int.pow_pos (n := 2) (m := j) (by omega)
    omega

theorem RootAt.bit {n o B : Int} (h : RootAt n o B) (h1 : n < 18446744073709551616) (hB : 0 < B) : bits BinOp.or IntKind.u64 o B = o + B := by
  obtain ⟨l0, l1⟩ := h.lt h1
  obtain ⟨h2, h3, h4⟩ := h
  rcases h4 with ⟨rfl, h4⟩ | ⟨j, hj, rfl, ⟨c, hc⟩, h5, h6⟩
  · omega
  · have hp : ((2 : Int) ^ j) = ((2 ^ j : Nat) : Int) := by rw [Int.natCast_pow]; rfl
    have hb : 2 ^ j < 18446744073709551616 := Nat.lt_of_lt_of_eq (@Nat.pow_lt_pow_right 2 j 64 (by omega) (by omega)) (by decide)
    have hz : c * 2 ^ (j + 1) < 18446744073709551616 := by
      have h7 : 0 < (2 : Int) ^ j := Int.pow_pos (by omega)
      generalize c * 2 ^ (j + 1) = z at *
      omega
    rw [hp, hc, bits_or_u64_nat _ _ hz hb, ← Int.natCast_add]
    congr 1
    rw [Nat.mul_comm]
    exact (Nat.two_pow_add_eq_or_of_lt (Nat.pow_lt_pow_right (by omega) (by omega)) c).symm
theorem RootAt.done {n o : Int} (h : RootAt n o 0) (n0 : 0 ≤ n) (n1 : n < 18446744073709551616) : o = isq n := by
  refine isq_eq n0 n1 h.nonneg h.sq ?_
  rcases h.rest with ⟨_, h4⟩ | ⟨j, _, h5, _⟩
  · exact h4
  · have := Int.pow_pos (n := 2) (m := j) (by omega)
    omega

theorem root_any (n : Int) (n0 : 0 ≤ n) (n1 : n < 18446744073709551616) (w : World) : Gives Tryz.prog 285 #[.int .u64 n] w (.int .u64 (isq n)) := by
  (unfold Gives; go_enter Tryz.func285, Tryz.ntmps285)
  go_wp2
  go_loop [3, 4] (fun s3 s4 => ∃ o B : Int, s3 = .int .u64 o ∧ s4 = .int .u64 B ∧ Hid (RootAt n o B) ∧ 0 ≤ o ∧ 0 ≤ B ∧ o + 2 * B ≤ 4294967296) (fun _ s4 => (intOf s4).toNat)
  case atStart => exact ⟨0, 2147483648, rfl, rfl, hide (RootAt.start n n0 n1), by omega, by omega, by omega⟩
  case round =>
    obtain ⟨o, B, rfl, rfl, hR, o0, b0, ob⟩ := hrel
    by_cases hB : 0 < B
    · have hor := hR.out.bit n1 hB
      obtain ⟨X, hX⟩ : ∃ X, o + B = X := ⟨_, rfl⟩
      have hst := hR.out.step hB
      rw [hX] at hor hst
      have hXX := mul_bd (x := X) (y := X) (B := 4294967295) (C := 4294967295) (by omega) (by omega) (by omega) (by omega)
      have hX0 := mul_self_nonneg X
      have HS := hide hst
      clear hst
      go_wp2
      · have hle : X * X ≤ n := by assumption
        have hs := HS.out X (.inl ⟨rfl, hle⟩)
        exact ⟨⟨X, B / 2, rfl, rfl, hide hs, hs.nonneg, (hs.lt n1).1, (hs.lt n1).2⟩, by simp [intOf]; omega⟩
      · have hlt : n < X * X := by assumption
        have hs := HS.out o (.inr ⟨rfl, hlt⟩)
        exact ⟨⟨o, B / 2, rfl, rfl, hide hs, hs.nonneg, (hs.lt n1).1, (hs.lt n1).2⟩, by simp [intOf]; omega⟩
    · obtain rfl : B = 0 := by omega
      have hd := hide (hR.out.done n0 n1)
      go_wp2
      go_ret
      exact ⟨ret_int hd.out, Up.refl _⟩

def rootV (n : Int) : Int := if n < 0 then -1 else isq n
theorem Root_any (n : Int) (n0 : -9223372036854775808 ≤ n) (n1 : n ≤ 9223372036854775807) (w : World) : Gives Tryz.prog 276 #[.int .i64 n] w (.int .i64 (rootV n)) := by
  by_cases h : n < 0
  · rw [show rootV n = -1 by unfold rootV; rw [if_pos h]]
    (unfold Gives; go_enter Tryz.func276, Tryz.ntmps276)
    go_wp2
    go_ret
    exact ⟨rfl, (by repeat (first | with_reducible exact Up.refl _ | with_reducible apply Up.plus | apply Up.ext | apply Up.alloc | apply Up.drew | (refine Up.setCell ?_ (by simp; try omega) _)))⟩
  · rw [show rootV n = isq n by unfold rootV; rw [if_neg h]]
    obtain ⟨i0, i1, i2⟩ := isq_spec n (by omega) (by omega)
    have i3 := lt_of_sq (a := isq n) (b := 3037000500) (by omega) (by omega)
    have H := hide (fun W => root_any n (by omega) (by omega) W)
    generalize isq n = r at *
    clear i1 i2
    (unfold Gives; go_enter Tryz.func276, Tryz.ntmps276)
    go_wp2_with (go_at_call 285; (with_reducible refine (H.out _).mono ?_); intro _)
    go_ret
    exact ⟨rfl, (by repeat (first | with_reducible exact Up.refl _ | with_reducible apply Up.plus | apply Up.ext | apply Up.alloc | apply Up.drew | (refine Up.setCell ?_ (by simp; try omega) _)))⟩

/-- the span of roots -/
def rootsS (a b : Int) : Int × Int × Int := if checkE a b = 0 then (if a < 0 then (0, 0, 2) else (isq a, (if isq b * isq b < b then isq b + 1 else isq b), 0)) else (0, 0, checkE a b)
theorem roots_any (a b : Int) (w : World) : Gives Tryz.prog 265 #[.agg #[.int .i64 a, .int .i64 b]] w
    (.tuple #[.agg #[.int .i64 (rootsS a b).1, .int .i64 (rootsS a b).2.1], .int .i64 (rootsS a b).2.2]) := by
  by_cases hv : checkE a b = 0
  · obtain ⟨a0, a1, a2⟩ := check_zero hv
    have hvb : (checkE a b != 0) = false := by simp [hv]
    by_cases hn : a < 0
    · rw [show rootsS a b = (0, 0, 2) by unfold rootsS; rw [if_pos hv, if_pos hn]]
      clear hv
      (unfold Gives; go_enter Tryz.func265, Tryz.ntmps265)
      go_wp2_with (go_at_call 193; (with_reducible refine (check_any _ _ _).mono ?_); intro _)
      all_goals (refine bodyPost_give (by repeat (first | with_reducible exact Up.refl _ | with_reducible apply Up.plus | apply Up.ext | apply Up.alloc | apply Up.drew | (refine Up.setCell ?_ (by simp; try omega) _))) rfl ⟨_, (by simp [results, Tryz.results265, go_sem]; rfl), ?_⟩)
      all_goals rfl
    · rw [show rootsS a b = (isq a, (if isq b * isq b < b then isq b + 1 else isq b), 0) by unfold rootsS; rw [if_pos hv, if_neg hn]]
      obtain ⟨i0, i1, i2⟩ := isq_spec b (by omega) (by omega)
      have i3 := lt_of_sq (a := isq b) (b := 1073741825) (by omega) (by omega)
      have H1 := hide (fun W => Root_any a (by omega) (by omega) W)
      have H2 := hide (fun W => Root_any b (by omega) (by omega) W)
      rw [show rootV a = isq a by unfold rootV; rw [if_neg (by omega)]] at H1
      rw [show rootV b = isq b by unfold rootV; rw [if_neg (by omega)]] at H2
      generalize isq b = r at *
      generalize isq a = q at *
      clear i2 hv
      have i4 := mul_bd (x := r) (y := r) (B := 1073741824) (C := 1073741824) (by omega) (by omega) (by omega) (by omega)
      have hn' : 0 ≤ a := by omega
      (unfold Gives; go_enter Tryz.func265, Tryz.ntmps265)
      go_wp2_with (first | (go_at_call 193; (with_reducible refine (check_any _ _ _).mono ?_); intro _) | (go_at_call 276; (with_reducible refine (H1.out _).mono ?_); intro _) | (go_at_call 276; (with_reducible refine (H2.out _).mono ?_); intro _))
      all_goals (refine bodyPost_give (by repeat (first | with_reducible exact Up.refl _ | with_reducible apply Up.plus | apply Up.ext | apply Up.alloc | apply Up.drew | (refine Up.setCell ?_ (by simp; try omega) _))) rfl ⟨_, (by simp [results, Tryz.results265, go_sem]; rfl), ?_⟩)
      all_goals (first | rfl | (exfalso; omega))
  · have hvb : (checkE a b != 0) = true := by simp [hv]
    rw [show rootsS a b = (0, 0, checkE a b) by unfold rootsS; rw [if_neg hv]]
    clear hv
    (unfold Gives; go_enter Tryz.func265, Tryz.ntmps265)
    go_wp2_with (go_at_call 193; (with_reducible refine (check_any _ _ _).mono ?_); intro _)
    all_goals (refine bodyPost_give (by repeat (first | with_reducible exact Up.refl _ | with_reducible apply Up.plus | apply Up.ext | apply Up.alloc | apply Up.drew | (refine Up.setCell ?_ (by simp; try omega) _))) rfl ⟨_, (by simp [results, Tryz.results265, go_sem]; rfl), ?_⟩)
    all_goals rfl
end Go.Proofs.YtnaiaodnnmhdkaaGreat

/- What Hull, Meet and Split return. No conditions. -/
namespace Go.Proofs.YtnaiaodnnmhdkaaGreat
set_option linter.unusedVariables false
set_option linter.unusedSimpArgs false
open Go.RowKit

def hullS (a b c d : Int) : Int × Int := if validE a b c d = 0 then (min a c, max b d) else (0, 0)
def meetS (a b c d : Int) : Int × Int × Bool := if validE a b c d = 0 ∧ max a c ≤ min b d then (max a c, min b d, true) else (0, 0, false)
theorem meet_any (a b c d : Int) (w : World) : Gives Tryz.prog 133 #[.agg #[.int .i64 a, .int .i64 b], .agg #[.int .i64 c, .int .i64 d]] w
    (.tuple #[.agg #[.int .i64 (meetS a b c d).1, .int .i64 (meetS a b c d).2.1], .bool (meetS a b c d).2.2]) := by
  (unfold Gives; go_enter Tryz.func133, Tryz.ntmps133)
  go_wp2_with (go_at_call 170; refine (valid_any _ _ _ _ _).mono ?_; intro _)
  all_goals (refine bodyPost_give (by repeat (first | with_reducible exact Up.refl _ | with_reducible apply Up.plus | apply Up.ext | apply Up.alloc | apply Up.drew | (refine Up.setCell ?_ (by simp; try omega) _))) rfl ⟨_, (by simp [results, Tryz.results133, go_sem]; rfl), ?_⟩)
  all_goals (go_light; first | (simp_all [meetS]; done) | (simp_all [meetS]; omega) | (simp_all [meetS]; repeat' split; all_goals (first | (simp_all; done) | omega | (simp_all; omega))))

/-- the halves: up to m, and above -/
def splitS (a b : Int) : Int × Int × Int × Int × Bool := if checkE a b = 0 ∧ ¬ a = b then (a, (a + b) / 2, (a + b) / 2 + 1, b, true) else (0, 0, 0, 0, false)
end Go.Proofs.YtnaiaodnnmhdkaaGreat

