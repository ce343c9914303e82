/- Several texts in one. -/
import Derived.Test.YtbcgdhldkanecaaBase
import Derived.Lib.Mul64
import Derived.Laws.Bits64b
import Derived.Test.YtbcgdhldkanecaaDivX
import Derived.Test.YtbcgdhldkanecaaSpanA
import Derived.Test.YtbcgdhldkanecaaComb
/- What the wide products of package span are: absolute values, their product in two words, its sign, comparisons. No conditions but the words' ranges. -/
namespace Go.Proofs.Ytbcgdhldkanecaa
open Go.RowKit

namespace M64
theorem maskN (a : Nat) (ha : a < 18446744073709551616) : bits .and .u64 (a : Int) 4294967295 = ((a % 4294967296 : Nat) : Int) := by
  have h := bits_and_u64_nat a 4294967295 ha (by omega)
  have e : a &&& 4294967295 = a % 4294967296 := Nat.and_two_pow_sub_one_eq_mod a 32
  rw [e] at h
  exact h
theorem divN (a : Nat) : (a : Int) / 4294967296 = ((a / 4294967296 : Nat) : Int) := by omega
theorem mulN (a b : Nat) : (a : Int) * (b : Int) = ((a * b : Nat) : Int) := (Int.natCast_mul a b).symm
theorem addN (a b : Nat) : (a : Int) + (b : Int) = ((a + b : Nat) : Int) := (Int.natCast_add a b).symm
theorem wrapN (a : Nat) (ha : a < 18446744073709551616) : IntKind.u64.wrap (a : Int) = (a : Int) := by rw [IntKind.wrap_u64]; omega
theorem wrapM (a : Nat) : IntKind.u64.wrap (a : Int) = ((a % 18446744073709551616 : Nat) : Int) := by rw [IntKind.wrap_u64]; omega
end M64

set_option maxHeartbeats 1000000 in
theorem mul64_nat (x y : Nat) (hx : x < 18446744073709551616) (hy : y < 18446744073709551616) (w : World) :
    Gives Try.prog 108 #[.int .u64 x, .int .u64 y] w (.tuple #[.int .u64 ((x * y / 18446744073709551616 : Nat) : Int), .int .u64 ((x * y % 18446744073709551616 : Nat) : Int)]) := by
  obtain ⟨bd, bt, bw, hhi⟩ := Lib.mul64_hi x y hx hy
  have ba := Lib.half_mul_le (a := x / 4294967296) (b := y / 4294967296) (by omega) (by omega)
  have bb := Lib.half_mul_le (a := x / 4294967296) (b := y % 4294967296) (by omega) (by omega)
  have bc := Lib.half_mul_le (a := x % 4294967296) (b := y / 4294967296) (by omega) (by omega)
  have ba' : x / 4294967296 * (y / 4294967296) < 18446744073709551616 := by omega
  have bb' : x / 4294967296 * (y % 4294967296) < 18446744073709551616 := by omega
  have bc' : x % 4294967296 * (y / 4294967296) < 18446744073709551616 := by omega
  have bh1 : x / 4294967296 * (y / 4294967296) + (x / 4294967296 * (y % 4294967296) + x % 4294967296 * (y % 4294967296) / 4294967296) / 4294967296 < 18446744073709551616 := by omega
  have bh : x / 4294967296 * (y / 4294967296) + (x / 4294967296 * (y % 4294967296) + x % 4294967296 * (y % 4294967296) / 4294967296) / 4294967296 + ((x / 4294967296 * (y % 4294967296) + x % 4294967296 * (y % 4294967296) / 4294967296) % 4294967296 + x % 4294967296 * (y / 4294967296)) / 4294967296 < 18446744073709551616 := by omega
  (unfold Gives; go_enter Try.func108, Try.ntmps108)
  go_wp2
  simp only [M64.maskN x hx, M64.maskN y hy, M64.divN, M64.mulN, M64.addN, M64.wrapN _ bd, M64.wrapN _ bb', M64.wrapN _ bt, M64.maskN _ bt, M64.wrapN _ bc', M64.wrapN _ bw, M64.wrapN _ ba', M64.wrapN _ bh1, M64.wrapN _ bh, M64.wrapM (x * y)]
  rw [hhi]
  go_ret2
  exact ⟨rfl, Up.refl _⟩

theorem mul64_any (x y : Int) (hx0 : 0 ≤ x) (hx : x < 18446744073709551616) (hy0 : 0 ≤ y) (hy : y < 18446744073709551616) (w : World) :
    Gives Try.prog 108 #[.int .u64 x, .int .u64 y] w (.tuple #[.int .u64 (x * y / 18446744073709551616), .int .u64 (x * y % 18446744073709551616)]) := by
  obtain ⟨a, rfl⟩ := Int.eq_ofNat_of_zero_le hx0
  obtain ⟨b, rfl⟩ := Int.eq_ofNat_of_zero_le hy0
  have h := mul64_nat a b (by omega) (by omega) w
  rw [show ((a * b / 18446744073709551616 : Nat) : Int) = (a : Int) * b / 18446744073709551616 by rw [Int.natCast_ediv, Int.natCast_mul]; rfl,
    show ((a * b % 18446744073709551616 : Nat) : Int) = (a : Int) * b % 18446744073709551616 by rw [Int.natCast_emod, Int.natCast_mul]; rfl] at h
  exact h

theorem times_any (x y : Int) (hx0 : 0 ≤ x) (hx : x < 18446744073709551616) (hy0 : 0 ≤ y) (hy : y < 18446744073709551616) (w : World) :
    Gives Try.prog 103 #[.int .u64 x, .int .u64 y] w (.agg #[.int .u64 (x * y / 18446744073709551616), .int .u64 (x * y % 18446744073709551616)]) := by
  (unfold Gives; go_enter Try.func103, Try.ntmps103)
  go_wp2_with (go_at_call 108; refine (mul64_any _ _ hx0 hx hy0 hy _).mono ?_; intro _)
  all_goals (refine bodyPost_give (by repeat (first | with_reducible exact Up.refl _ | with_reducible apply Up.plus | apply Up.ext | apply Up.alloc | apply Up.drew | (refine Up.setCell ?_ (by simp; try omega) _))) rfl ⟨_, (by simp [results, Try.results103, go_sem]; rfl), ?_⟩)
  all_goals rfl

theorem size_any (n : Int) (h0 : -9223372036854775808 ≤ n) (h1 : n ≤ 9223372036854775807) (w : World) : Gives Try.prog 104 #[.int .i64 n] w (.int .u64 (n.natAbs : Int)) := by
  (unfold Gives; go_enter Try.func104, Try.ntmps104)
  go_wp2
  all_goals (go_ret; refine ⟨ret_int ?_, (by repeat (first | with_reducible exact Up.refl _ | with_reducible apply Up.plus | apply Up.ext | apply Up.alloc | apply Up.drew | (refine Up.setCell ?_ (by simp; try omega) _)))⟩)
  · rw [IntKind.wrap_u64, IntKind.wrap_u64]; omega
  · omega

def lessW (a b c d : Int) : Bool := decide (a < c ∨ a = c ∧ b < d)
def sgnW (h l : Int) (b : Bool) : Int := if h = 0 ∧ l = 0 then 0 else if b = true then -1 else 1
theorem product_any (a b : Int) (ha0 : -9223372036854775808 ≤ a) (ha1 : a ≤ 9223372036854775807) (hb0 : -9223372036854775808 ≤ b) (hb1 : b ≤ 9223372036854775807) (w : World) :
    Gives Try.prog 95 #[.int .i64 a, .int .i64 b] w
      (.agg #[.int .u64 ((a.natAbs : Int) * b.natAbs / 18446744073709551616), .int .u64 ((a.natAbs : Int) * b.natAbs % 18446744073709551616), .bool (decide (a < 0) != decide (b < 0))]) := by
  (unfold Gives; go_enter Try.func95, Try.ntmps95)
  go_wp2_with (first | (go_at_call 104; refine (size_any _ (by omega) (by omega) _).mono ?_; intro _) | (go_at_call 103; refine (times_any _ _ (by omega) (by omega) (by omega) (by omega) _).mono ?_; intro _))
  all_goals (refine bodyPost_give (by repeat (first | with_reducible exact Up.refl _ | with_reducible apply Up.plus | apply Up.ext | apply Up.alloc | apply Up.drew | (refine Up.setCell ?_ (by simp; try omega) _))) rfl ⟨_, (by simp [results, Try.results95, go_sem]; rfl), ?_⟩)
  all_goals rfl

theorem sgn_bd (h l : Int) (b : Bool) : -1 ≤ sgnW h l b ∧ sgnW h l b ≤ 1 := by unfold sgnW; split <;> (try split) <;> omega
theorem wrap_sgn (h l : Int) (b : Bool) : wrap64 (-sgnW h l b) = -sgnW h l b := IntWalk.wrap64_in _ (by have := sgn_bd h l b; omega)
def cmpW (h l : Int) (b : Bool) (h' l' : Int) (b' : Bool) : Int :=
  if sgnW h l b = sgnW h' l' b' then (if h = h' ∧ l = l' then 0 else if lessW h l h' l' = true then -(sgnW h l b) else sgnW h l b)
  else min (max (sgnW h l b - sgnW h' l' b') (-1)) 1
end Go.Proofs.Ytbcgdhldkanecaa

/- A wide product divided by a number, rounded down and up: divide, MulDiv; and what that is in plain integers. Conditions: the words' ranges, a divisor that is not 0. -/
namespace Go.Proofs.Ytbcgdhldkanecaa
open Go.RowKit

/-- the quotient q of sizes and the one rounded up, with the sign -/
def quoS (q up : Int) (s : Bool) : Int × Int × Int :=
  if 1152921504606846976 < q ∨ 1152921504606846976 < up then (0, 0, 14) else if s = true then (-up, -q, 0) else (q, up, 0)
def divW (h l : Int) (b : Bool) (c : Int) : Int × Int × Int :=
  if (c.natAbs : Int) ≤ h then (0, 0, 14) else
    quoS ((h * 18446744073709551616 + l) / c.natAbs) ((h * 18446744073709551616 + l) / c.natAbs + if (h * 18446744073709551616 + l) % c.natAbs = 0 then 0 else 1) (b != decide (c < 0))

set_option maxHeartbeats 1000000 in
theorem divide_any (h l : Int) (b : Bool) (c : Int) (h0 : 0 ≤ h) (h1 : h < 18446744073709551616) (l0 : 0 ≤ l) (l1 : l < 18446744073709551616)
    (c0 : -9223372036854775808 ≤ c) (c1 : c ≤ 9223372036854775807) (w : World) :
    Gives Try.prog 96 #[.agg #[.int .u64 h, .int .u64 l, .bool b], .int .i64 c] w
      (.tuple #[.int .i64 (divW h l b c).1, .int .i64 (divW h l b c).2.1, .int .i64 (divW h l b c).2.2]) := by
  by_cases hd : (c.natAbs : Int) ≤ h
  · (unfold Gives; go_enter Try.func96, Try.ntmps96)
    go_wp2_with (go_at_call 104; refine (size_any _ c0 c1 _).mono ?_; intro _)
    all_goals go_ret3
    all_goals refine ⟨?_, (by repeat (first | with_reducible exact Up.refl _ | with_reducible apply Up.plus | apply Up.ext | apply Up.alloc | apply Up.drew | (refine Up.setCell ?_ (by simp; try omega) _)))⟩
    all_goals simp [divW, hd]
  · have hd' : h < (c.natAbs : Int) := by omega
    clear hd
    have hrd := hide (rfl : divW h l b c = divW h l b c)
    obtain ⟨q, hq⟩ : ∃ q, (h * 18446744073709551616 + l) / c.natAbs = q := ⟨_, rfl⟩
    obtain ⟨r, hr⟩ : ∃ q, (h * 18446744073709551616 + l) % c.natAbs = q := ⟨_, rfl⟩
    have hq0 : 0 ≤ q := by rw [← hq]; exact Int.ediv_nonneg (by omega) (by omega)
    have hr0 : 0 ≤ r := by rw [← hr]; exact Int.emod_nonneg _ (by omega)
    have hq1 : q < 18446744073709551616 := by
      rw [← hq]
      apply Int.ediv_lt_of_lt_mul (by omega)
      have : (h + 1) * 18446744073709551616 ≤ (c.natAbs : Int) * 18446744073709551616 := Int.mul_le_mul_of_nonneg_right (by omega) (by omega)
      grind
    have hdiv := fun W => div64_any h l c.natAbs h0 hd' l0 l1 (by omega) W
    rw [hq, hr] at hdiv
    have hE : divW h l b c = quoS q (q + if r = 0 then 0 else 1) (b != decide (c < 0)) := by simp only [divW]; rw [if_neg (by omega), hq, hr]
    rw [hE]
    clear hE hq hr hrd
    have HD := hide hdiv
    clear hdiv
    (unfold Gives; go_enter Try.func96, Try.ntmps96)
    go_wp2_with (first | (go_at_call 104; refine (size_any _ c0 c1 _).mono ?_; intro _) | (go_at_call 105; refine (HD.out _).mono ?_; intro _))
    all_goals go_ret3
    all_goals refine ⟨?_, (by repeat (first | with_reducible exact Up.refl _ | with_reducible apply Up.plus | apply Up.ext | apply Up.alloc | apply Up.drew | (refine Up.setCell ?_ (by simp; try omega) _)))⟩
    all_goals (go_light; first | (simp_all [quoS]; done) | (simp_all [quoS]; omega) | (simp_all [quoS]; repeat' split; all_goals (first | (simp_all; done) | omega | (simp_all; omega))))

/-- a product divided by a number, rounded down and up; 14: too great -/
def floQ (p c : Int) : Int := if c < 0 then (-p) / (-c) else p / c
def ceiQ (p c : Int) : Int := -(floQ (-p) c)
def mdE (p c : Int) : Int × Int × Int :=
  if -1152921504606846976 ≤ floQ p c ∧ floQ p c ≤ 1152921504606846976 ∧ -1152921504606846976 ≤ ceiQ p c ∧ ceiQ p c ≤ 1152921504606846976 then (floQ p c, ceiQ p c, 0) else (0, 0, 14)

/-- of sizes -/
theorem quo_sizes (m d : Int) (hm : 0 ≤ m) (hd : 0 < d) : ((-m) / d = -(m / d + if m % d = 0 then 0 else 1)) := by
  have h1 := Int.mul_ediv_add_emod m d
  have h2 := Int.emod_nonneg m (show d ≠ 0 by omega)
  have h3 := Int.emod_lt_of_pos m hd
  generalize m / d = q at *
  generalize m % d = r at *
  split
  · rename_i h
    subst h
    have : -m = d * (-q) := by rw [← h1]; grind
    rw [this, Int.mul_ediv_cancel_left _ (by omega)]
    omega
  · rename_i h
    have : -m = (d - r) + d * (-(q + 1)) := by rw [← h1]; grind
    rw [this, Int.add_mul_ediv_left _ _ (by omega), Int.ediv_eq_zero_of_lt (by omega) (by omega)]
    omega

theorem flo_abs (p c : Int) (hc : c ≠ 0) : floQ p c = if (decide (p < 0) != decide (c < 0)) = true then -((p.natAbs : Int) / (c.natAbs : Int) + if (p.natAbs : Int) % (c.natAbs : Int) = 0 then 0 else 1) else (p.natAbs : Int) / (c.natAbs : Int) := by
  have hq := quo_sizes (p.natAbs : Int) (c.natAbs : Int) (by omega) (by omega)
  unfold floQ
  rcases Int.lt_or_gt_of_ne hc with hc0 | hc0
  · rw [if_pos hc0, show decide (c < 0) = true by simpa using hc0, show -c = (c.natAbs : Int) by omega]
    by_cases hp : p < 0
    · rw [show decide (p < 0) = true by simpa using hp, show -p = (p.natAbs : Int) by omega]; simp
    · rw [show decide (p < 0) = false by simpa using hp, show -p = -(p.natAbs : Int) by omega, hq]; simp
  · rw [if_neg (by omega), show decide (c < 0) = false by simp; omega]
    obtain ⟨d, hd⟩ : ∃ d : Int, (c.natAbs : Int) = d := ⟨_, rfl⟩
    rw [hd] at hq ⊢
    rw [show c = d by omega]
    by_cases hp : p < 0
    · obtain ⟨m, hm⟩ : ∃ m : Int, (p.natAbs : Int) = m := ⟨_, rfl⟩
      rw [hm] at hq ⊢
      rw [show decide (p < 0) = true by simpa using hp, show p = -m by omega, hq]; simp
    · obtain ⟨m, hm⟩ : ∃ m : Int, (p.natAbs : Int) = m := ⟨_, rfl⟩
      rw [hm] at hq ⊢
      rw [show decide (p < 0) = false by simpa using hp, show p = m by omega]; simp

theorem mdE_quoS (p c : Int) (hc : c ≠ 0) (s : Bool) (hs : s = (decide (p < 0) != decide (c < 0)) ∨ p = 0) :
    mdE p c = quoS ((p.natAbs : Int) / (c.natAbs : Int)) ((p.natAbs : Int) / (c.natAbs : Int) + if (p.natAbs : Int) % (c.natAbs : Int) = 0 then 0 else 1) s := by
  by_cases hp : p = 0
  · subst hp
    unfold mdE ceiQ quoS
    rw [show -(0 : Int) = 0 from rfl, flo_abs 0 c hc]
    cases s <;> simp
  · have h1 := flo_abs p c hc
    have h2 := flo_abs (-p) c hc
    rw [Int.natAbs_neg] at h2
    have hq0 : 0 ≤ (p.natAbs : Int) / (c.natAbs : Int) := Int.ediv_nonneg (by omega) (by omega)
    have hsg : (decide (-p < 0) != decide (c < 0)) = !(decide (p < 0) != decide (c < 0)) := by
      rw [show decide (-p < 0) = !(decide (p < 0)) by
        rcases Int.lt_or_gt_of_ne hp with h | h
        · rw [decide_eq_true h, decide_eq_false (by omega)]; rfl
        · rw [decide_eq_true (by omega), decide_eq_false (by omega)]; rfl]
      cases decide (p < 0) <;> cases decide (c < 0) <;> rfl
    rw [hsg] at h2
    obtain rfl : s = (decide (p < 0) != decide (c < 0)) := by rcases hs with h | h; exact h; exact absurd h hp
    generalize (decide (p < 0) != decide (c < 0)) = s at *
    have hU : ∃ U, ((p.natAbs : Int) / (c.natAbs : Int) + if (p.natAbs : Int) % (c.natAbs : Int) = 0 then 0 else 1) = U ∧ (p.natAbs : Int) / (c.natAbs : Int) ≤ U := ⟨_, rfl, by split <;> omega⟩
    obtain ⟨U, hU, hUQ⟩ := hU
    rw [hU] at h1 h2 ⊢
    generalize (p.natAbs : Int) / (c.natAbs : Int) = Q at *
    unfold mdE ceiQ
    rw [h1, h2]
    clear h1 h2 hU hs hsg
    unfold quoS
    cases s
    · simp only [Bool.false_eq_true, if_false, Bool.not_false, if_true]
      by_cases h : 1152921504606846976 < Q ∨ 1152921504606846976 < U
      · rw [if_pos h, if_neg (by omega)]
      · rw [if_neg h, if_pos (by omega)]; simp
    · simp only [Bool.false_eq_true, if_false, Bool.not_true, if_true]
      by_cases h : 1152921504606846976 < Q ∨ 1152921504606846976 < U
      · rw [if_pos h, if_neg (by omega)]
      · rw [if_neg h, if_pos (by omega)]

theorem sgn_product (a b : Int) : (decide (a < 0) != decide (b < 0)) = decide (a * b < 0) ∨ a * b = 0 := by
  by_cases h0 : a * b = 0
  · exact .inr h0
  · left
    have ha : a ≠ 0 := by rintro rfl; simp at h0
    have hb : b ≠ 0 := by rintro rfl; simp at h0
    rcases Int.lt_or_gt_of_ne ha with h1 | h1 <;> rcases Int.lt_or_gt_of_ne hb with h2 | h2
    · have := Int.mul_pos_of_neg_of_neg h1 h2
      simp [h1, h2]; omega
    · have := Int.mul_neg_of_neg_of_pos h1 h2
      simp [h1, this]; omega
    · have := Int.mul_neg_of_pos_of_neg h1 h2
      simp [h2, this]; omega
    · have := Int.mul_pos h1 h2
      rw [show decide (a < 0) = false by simp; omega, show decide (b < 0) = false by simp; omega, show decide (a * b < 0) = false by simp; omega]
      rfl

theorem divW_product (a b c : Int) (hc : c ≠ 0) :
    divW ((a.natAbs : Int) * b.natAbs / 18446744073709551616) ((a.natAbs : Int) * b.natAbs % 18446744073709551616) (decide (a < 0) != decide (b < 0)) c = mdE (a * b) c := by
  have hn : (a.natAbs : Int) * b.natAbs = ((a * b).natAbs : Int) := by rw [Int.natAbs_mul]; exact (Int.natCast_mul _ _).symm
  rw [hn]
  have hs := sgn_product a b
  generalize a * b = p at *
  generalize (decide (a < 0) != decide (b < 0)) = sg at *
  rw [mdE_quoS p c hc (sg != decide (c < 0)) (by rcases hs with h | h; exact .inl (by rw [h]); exact .inr h)]
  have hmm := Int.mul_ediv_add_emod (p.natAbs : Int) 18446744073709551616
  unfold divW
  rw [show (p.natAbs : Int) / 18446744073709551616 * 18446744073709551616 + (p.natAbs : Int) % 18446744073709551616 = p.natAbs by omega]
  split
  · rename_i h
    have h1 : (c.natAbs : Int) * 18446744073709551616 ≤ p.natAbs := by omega
    have h2 := (Int.le_ediv_iff_mul_le (show 0 < (c.natAbs : Int) by omega)).2 (show 18446744073709551616 * (c.natAbs : Int) ≤ p.natAbs by rw [Int.mul_comm]; exact h1)
    unfold quoS
    rw [if_pos (by omega)]
  · rfl

/-- The quotient of a product of two numbers. -/
theorem product_divide (a b c : Int) (ha0 : -9223372036854775808 ≤ a) (ha1 : a ≤ 9223372036854775807) (hb0 : -9223372036854775808 ≤ b) (hb1 : b ≤ 9223372036854775807)
    (hc : c ≠ 0) (c0 : -9223372036854775808 ≤ c) (c1 : c ≤ 9223372036854775807) (w : World) :
    Gives Try.prog 96 #[.agg #[.int .u64 ((a.natAbs : Int) * b.natAbs / 18446744073709551616), .int .u64 ((a.natAbs : Int) * b.natAbs % 18446744073709551616), .bool (decide (a < 0) != decide (b < 0))], .int .i64 c] w
      (.tuple #[.int .i64 (mdE (a * b) c).1, .int .i64 (mdE (a * b) c).2.1, .int .i64 (mdE (a * b) c).2.2]) := by
  have hm : (a.natAbs : Int) * b.natAbs ≤ 9223372036854775808 * 9223372036854775808 := Int.mul_le_mul (by omega) (by omega) (by omega) (by omega)
  have hm0 : 0 ≤ (a.natAbs : Int) * b.natAbs := Int.mul_nonneg (by omega) (by omega)
  rw [← divW_product a b c hc]
  exact divide_any _ _ _ c (by omega) (by omega) (by omega) (by omega) c0 c1 w

def mulDivE (a b c : Int) : Int × Int × Int := if fitsB a = true ∧ fitsB b = true ∧ fitsB c = true ∧ ¬ c = 0 then mdE (a * b) c else (0, 0, 2)
theorem muldiv_any (a b c : Int) (w : World) : Gives Try.prog 88 #[.int .i64 a, .int .i64 b, .int .i64 c] w
    (.tuple #[.int .i64 (mulDivE a b c).1, .int .i64 (mulDivE a b c).2.1, .int .i64 (mulDivE a b c).2.2]) := by
  by_cases h : fitsB a = true ∧ fitsB b = true ∧ fitsB c = true ∧ ¬ c = 0
  · obtain ⟨h1, h2, h3, h4⟩ := h
    obtain ⟨a0, a1⟩ := (fits_iff a).1 h1
    obtain ⟨b0, b1⟩ := (fits_iff b).1 h2
    obtain ⟨c0, c1⟩ := (fits_iff c).1 h3
    have hcb : (c == 0) = false := by simp [h4]
    have HP := fun W => product_divide a b c (by omega) (by omega) (by omega) (by omega) h4 (by omega) (by omega) W
    have HE : mulDivE a b c = mdE (a * b) c := by unfold mulDivE; rw [if_pos ⟨h1, h2, h3, h4⟩]
    rw [HE]
    have HQ := hide HP
    clear HP HE
    (unfold Gives; go_enter Try.func88, Try.ntmps88)
    go_wp2_with (first | (go_at_call 97; refine (fits_any _ _).mono ?_; intro _) | (go_at_call 95; refine (product_any _ _ (by omega) (by omega) (by omega) (by omega) _).mono ?_; intro _) | (go_at_call 96; refine (HQ.out _).mono ?_; intro _))
    go_ret3
    exact ⟨rfl, (by repeat (first | with_reducible exact Up.refl _ | with_reducible apply Up.plus | apply Up.ext | apply Up.alloc | apply Up.drew | (refine Up.setCell ?_ (by simp; try omega) _)))⟩
  · have HE : mulDivE a b c = (0, 0, 2) := by unfold mulDivE; rw [if_neg h]
    rw [HE]
    cases ha : fitsB a with
    | false =>
      (unfold Gives; go_enter Try.func88, Try.ntmps88)
      go_wp2_with (go_at_call 97; refine (fits_any _ _).mono ?_; intro _)
      go_ret3
      exact ⟨rfl, (by repeat (first | with_reducible exact Up.refl _ | with_reducible apply Up.plus | apply Up.ext | apply Up.alloc | apply Up.drew | (refine Up.setCell ?_ (by simp; try omega) _)))⟩
    | true =>
      cases hb : fitsB b with
      | false =>
        (unfold Gives; go_enter Try.func88, Try.ntmps88)
        go_wp2_with (go_at_call 97; refine (fits_any _ _).mono ?_; intro _)
        go_ret3
        exact ⟨rfl, (by repeat (first | with_reducible exact Up.refl _ | with_reducible apply Up.plus | apply Up.ext | apply Up.alloc | apply Up.drew | (refine Up.setCell ?_ (by simp; try omega) _)))⟩
      | true =>
        cases hc : fitsB c with
        | false =>
          (unfold Gives; go_enter Try.func88, Try.ntmps88)
          go_wp2_with (go_at_call 97; refine (fits_any _ _).mono ?_; intro _)
          go_ret3
          exact ⟨rfl, (by repeat (first | with_reducible exact Up.refl _ | with_reducible apply Up.plus | apply Up.ext | apply Up.alloc | apply Up.drew | (refine Up.setCell ?_ (by simp; try omega) _)))⟩
        | true =>
          obtain rfl : c = 0 := by
            by_cases h0 : c = 0
            · exact h0
            · exact absurd ⟨ha, hb, hc, h0⟩ h
          clear h HE
          (unfold Gives; go_enter Try.func88, Try.ntmps88)
          go_wp2_with (go_at_call 97; refine (fits_any _ _).mono ?_; intro _)
          go_ret3
          exact ⟨rfl, (by repeat (first | with_reducible exact Up.refl _ | with_reducible apply Up.plus | apply Up.ext | apply Up.alloc | apply Up.drew | (refine Up.setCell ?_ (by simp; try omega) _)))⟩
end Go.Proofs.Ytbcgdhldkanecaa

/- Sums, differences, products, squares and quotients of spans. No conditions. -/
namespace Go.Proofs.Ytbcgdhldkanecaa
open Go.RowKit

def endsS (lo hi : Int) : Int × Int × Int := if fitsB lo = true ∧ fitsB hi = true then (lo, hi, 0) else (0, 0, 14)
theorem ends_any (lo hi : Int) (w : World) : Gives Try.prog 80 #[.int .i64 lo, .int .i64 hi] w (.tuple #[.agg #[.int .i64 (endsS lo hi).1, .int .i64 (endsS lo hi).2.1], .int .i64 (endsS lo hi).2.2]) := by
  (unfold Gives; go_enter Try.func80, Try.ntmps80)
  go_wp2_with (go_at_call 97; refine (fits_any _ _).mono ?_; intro _)
  all_goals (refine bodyPost_give (by repeat (first | with_reducible exact Up.refl _ | with_reducible apply Up.plus | apply Up.ext | apply Up.alloc | apply Up.drew | (refine Up.setCell ?_ (by simp; try omega) _))) rfl ⟨_, (by simp [results, Try.results80, go_sem]; rfl), ?_⟩)
  all_goals (go_light; first | (simp_all [endsS]; done) | (simp_all [endsS]; omega) | (simp_all [endsS]; repeat' split; all_goals (first | (simp_all; done) | omega | (simp_all; omega))))

theorem valid_zero {a b c d : Int} (h : validE a b c d = 0) : checkE a b = 0 ∧ checkE c d = 0 := by
  unfold validE at h
  split at h
  · exact ⟨by assumption, h⟩
  · exact absurd h (by assumption)

def addS (a b c d : Int) : Int × Int × Int := if validE a b c d = 0 then endsS (a + c) (b + d) else (0, 0, validE a b c d)
theorem add_any (a b c d : Int) (w : World) : Gives Try.prog 78 #[.agg #[.int .i64 a, .int .i64 b], .agg #[.int .i64 c, .int .i64 d]] w
    (.tuple #[.agg #[.int .i64 (addS a b c d).1, .int .i64 (addS a b c d).2.1], .int .i64 (addS a b c d).2.2]) := by
  by_cases hv : validE a b c d = 0
  · obtain ⟨h1, h2⟩ := valid_zero hv
    obtain ⟨a0, a1, a2⟩ := check_zero h1
    obtain ⟨c0, c1, c2⟩ := check_zero h2
    have hvb : (validE a b c d != 0) = false := by simp [hv]
    rw [show addS a b c d = endsS (a + c) (b + d) by unfold addS; rw [if_pos hv]]
    clear h1 h2 hv
    (unfold Gives; go_enter Try.func78, Try.ntmps78)
    go_wp2_with (first | (go_at_call 85; refine (valid_any _ _ _ _ _).mono ?_; intro _) | (go_at_call 80; refine (ends_any _ _ _).mono ?_; intro _))
    all_goals (refine bodyPost_give (by repeat (first | with_reducible exact Up.refl _ | with_reducible apply Up.plus | apply Up.ext | apply Up.alloc | apply Up.drew | (refine Up.setCell ?_ (by simp; try omega) _))) rfl ⟨_, (by simp [results, Try.results78, go_sem]; rfl), ?_⟩)
    all_goals rfl
  · have hvb : (validE a b c d != 0) = true := by simp [hv]
    rw [show addS a b c d = (0, 0, validE a b c d) by unfold addS; rw [if_neg hv]]
    clear hv
    (unfold Gives; go_enter Try.func78, Try.ntmps78)
    go_wp2_with (go_at_call 85; refine (valid_any _ _ _ _ _).mono ?_; intro _)
    all_goals (refine bodyPost_give (by repeat (first | with_reducible exact Up.refl _ | with_reducible apply Up.plus | apply Up.ext | apply Up.alloc | apply Up.drew | (refine Up.setCell ?_ (by simp; try omega) _))) rfl ⟨_, (by simp [results, Try.results78, go_sem]; rfl), ?_⟩)
    all_goals rfl

def subS (a b c d : Int) : Int × Int × Int := if validE a b c d = 0 then endsS (a - d) (b - c) else (0, 0, validE a b c d)
theorem sub_any (a b c d : Int) (w : World) : Gives Try.prog 77 #[.agg #[.int .i64 a, .int .i64 b], .agg #[.int .i64 c, .int .i64 d]] w
    (.tuple #[.agg #[.int .i64 (subS a b c d).1, .int .i64 (subS a b c d).2.1], .int .i64 (subS a b c d).2.2]) := by
  by_cases hv : validE a b c d = 0
  · obtain ⟨h1, h2⟩ := valid_zero hv
    obtain ⟨a0, a1, a2⟩ := check_zero h1
    obtain ⟨c0, c1, c2⟩ := check_zero h2
    have hvb : (validE a b c d != 0) = false := by simp [hv]
    rw [show subS a b c d = endsS (a - d) (b - c) by unfold subS; rw [if_pos hv]]
    clear h1 h2 hv
    (unfold Gives; go_enter Try.func77, Try.ntmps77)
    go_wp2_with (first | (go_at_call 85; refine (valid_any _ _ _ _ _).mono ?_; intro _) | (go_at_call 80; refine (ends_any _ _ _).mono ?_; intro _))
    all_goals (refine bodyPost_give (by repeat (first | with_reducible exact Up.refl _ | with_reducible apply Up.plus | apply Up.ext | apply Up.alloc | apply Up.drew | (refine Up.setCell ?_ (by simp; try omega) _))) rfl ⟨_, (by simp [results, Try.results77, go_sem]; rfl), ?_⟩)
    all_goals rfl
  · have hvb : (validE a b c d != 0) = true := by simp [hv]
    rw [show subS a b c d = (0, 0, validE a b c d) by unfold subS; rw [if_neg hv]]
    clear hv
    (unfold Gives; go_enter Try.func77, Try.ntmps77)
    go_wp2_with (go_at_call 85; refine (valid_any _ _ _ _ _).mono ?_; intro _)
    all_goals (refine bodyPost_give (by repeat (first | with_reducible exact Up.refl _ | with_reducible apply Up.plus | apply Up.ext | apply Up.alloc | apply Up.drew | (refine Up.setCell ?_ (by simp; try omega) _))) rfl ⟨_, (by simp [results, Try.results77, go_sem]; rfl), ?_⟩)
    all_goals rfl

theorem mul1_any (x y : Int) (x0 : -1152921504606846976 ≤ x) (x1 : x ≤ 1152921504606846976) (y0 : -1152921504606846976 ≤ y) (y1 : y ≤ 1152921504606846976) (w : World) :
    Gives Try.prog 106 #[.int .i64 x, .int .i64 y] w (.tuple #[.int .i64 (mdE (x * y) 1).1, .int .i64 (mdE (x * y) 1).2.1, .int .i64 (mdE (x * y) 1).2.2]) := by
  (unfold Gives; go_enter Try.func106, Try.ntmps106)
  go_wp2_with (first | (go_at_call 95; refine (product_any _ _ (by omega) (by omega) (by omega) (by omega) _).mono ?_; intro _) | (go_at_call 96; refine (product_divide _ _ 1 (by omega) (by omega) (by omega) (by omega) (by omega) (by omega) (by omega) _).mono ?_; intro _))
  go_ret3
  exact ⟨rfl, (by repeat (first | with_reducible exact Up.refl _ | with_reducible apply Up.plus | apply Up.ext | apply Up.alloc | apply Up.drew | (refine Up.setCell ?_ (by simp; try omega) _)))⟩

theorem divW_one (x y : Int) (hy : y ≠ 0) : divW ((x.natAbs : Int) / 18446744073709551616) ((x.natAbs : Int) % 18446744073709551616) (decide (x < 0)) y = mdE x y := by
  have h := divW_product x 1 y hy
  rw [show ((1 : Int).natAbs : Int) = 1 from rfl, Int.mul_one, Int.mul_one, show (decide (x < 0) != decide ((1 : Int) < 0)) = decide (x < 0) by simp] at h
  exact h
theorem product_one (x : Int) (x0 : -1152921504606846976 ≤ x) (x1 : x ≤ 1152921504606846976) (w : World) : Gives Try.prog 95 #[.int .i64 x, .int .i64 1] w
    (.agg #[.int .u64 ((x.natAbs : Int) / 18446744073709551616), .int .u64 ((x.natAbs : Int) % 18446744073709551616), .bool (decide (x < 0))]) := by
  have h := product_any x 1 (by omega) (by omega) (by omega) (by omega) w
  rw [show ((1 : Int).natAbs : Int) = 1 from rfl, Int.mul_one, show (decide (x < 0) != decide ((1 : Int) < 0)) = decide (x < 0) by simp] at h
  exact h

theorem quot1_any (x y : Int) (x0 : -1152921504606846976 ≤ x) (x1 : x ≤ 1152921504606846976) (y0 : -1152921504606846976 ≤ y) (y1 : y ≤ 1152921504606846976) (hy : y ≠ 0) (w : World) :
    Gives Try.prog 94 #[.int .i64 x, .int .i64 y] w (.tuple #[.int .i64 (mdE x y).1, .int .i64 (mdE x y).2.1, .int .i64 (mdE x y).2.2]) := by
  rw [← divW_one x y hy]
  clear hy
  (unfold Gives; go_enter Try.func94, Try.ntmps94)
  go_wp2_with (first | (go_at_call 95; refine (product_one _ x0 x1 _).mono ?_; intro _) | (go_at_call 96; refine (divide_any _ _ _ _ (by omega) (by omega) (by omega) (by omega) (by omega) (by omega) _).mono ?_; intro _))
  go_ret3
  exact ⟨rfl, (by repeat (first | with_reducible exact Up.refl _ | with_reducible apply Up.plus | apply Up.ext | apply Up.alloc | apply Up.drew | (refine Up.setCell ?_ (by simp; try omega) _)))⟩

theorem mem_four {a b c d : Int} {x : Int × Int} (h : x ∈ four a b c d) : (x.1 = a ∨ x.1 = b) ∧ (x.2 = c ∨ x.2 = d) := by
  simp [four] at h
  rcases h with rfl | rfl | rfl | rfl <;> simp

def mulS (a b c d : Int) : Int × Int × Int := combE (fun x y => mdE (x * y) 1) a b c d
theorem mul_any (a b c d : Int) (w : World) : Gives Try.prog 100 #[.agg #[.int .i64 a, .int .i64 b], .agg #[.int .i64 c, .int .i64 d]] w
    (.tuple #[.agg #[.int .i64 (mulS a b c d).1, .int .i64 (mulS a b c d).2.1], .int .i64 (mulS a b c d).2.2]) := by
  have hc := fun W => combine_any 106 (fun x y => mdE (x * y) 1) (enters_of Try.func106 (by kernel_rfl) rfl) a b c d (fun hv x hx W => by
    obtain ⟨h1, h2⟩ := valid_zero hv
    obtain ⟨a0, a1, a2⟩ := check_zero h1
    obtain ⟨c0, c1, c2⟩ := check_zero h2
    obtain ⟨h3, h4⟩ := mem_four hx
    exact mul1_any x.1 x.2 (by omega) (by omega) (by omega) (by omega) W) W
  have HC := hide hc
  clear hc
  unfold mulS
  (unfold Gives; go_enter Try.func100, Try.ntmps100)
  go_wp2_with (go_at_call 93; refine (HC.out _).mono ?_; intro _)
  all_goals (refine bodyPost_give (by repeat (first | with_reducible exact Up.refl _ | with_reducible apply Up.plus | apply Up.ext | apply Up.alloc | apply Up.drew | (refine Up.setCell ?_ (by simp; try omega) _))) rfl ⟨_, (by simp [results, Try.results100, go_sem]; rfl), ?_⟩)
  all_goals rfl

def quotS (a b c d : Int) : Int × Int × Int := if validE a b c d = 0 then (if c ≤ 0 ∧ 0 ≤ d then (0, 0, 2) else combE (fun x y => mdE x y) a b c d) else (0, 0, validE a b c d)
theorem quot_any (a b c d : Int) (w : World) : Gives Try.prog 76 #[.agg #[.int .i64 a, .int .i64 b], .agg #[.int .i64 c, .int .i64 d]] w
    (.tuple #[.agg #[.int .i64 (quotS a b c d).1, .int .i64 (quotS a b c d).2.1], .int .i64 (quotS a b c d).2.2]) := by
  by_cases hv : validE a b c d = 0
  · have hvb : (validE a b c d != 0) = false := by simp [hv]
    obtain ⟨h1, h2⟩ := valid_zero hv
    obtain ⟨c0, c1, c2⟩ := check_zero h2
    by_cases hz : c ≤ 0 ∧ 0 ≤ d
    · have hin : inB c d 0 = true := by simp [inB, h2, withinB, hz]
      rw [show quotS a b c d = (0, 0, 2) by unfold quotS; rw [if_pos hv, if_pos hz]]
      clear hz h1 h2 hv c1
      (unfold Gives; go_enter Try.func76, Try.ntmps76)
      go_wp2_with (first | (go_at_call 85; refine (valid_any _ _ _ _ _).mono ?_; intro _) | (go_at_call 92; refine (in_any _ _ _ _).mono ?_; intro _))
      all_goals (refine bodyPost_give (by repeat (first | with_reducible exact Up.refl _ | with_reducible apply Up.plus | apply Up.ext | apply Up.alloc | apply Up.drew | (refine Up.setCell ?_ (by simp; try omega) _))) rfl ⟨_, (by simp [results, Try.results76, go_sem]; rfl), ?_⟩)
      all_goals rfl
    · have hin : inB c d 0 = false := by simp [inB, h2, withinB]; omega
      have hc := fun W => combine_any 94 (fun x y => mdE x y) (enters_of Try.func94 (by kernel_rfl) rfl) a b c d (fun hv x hx W => by
        obtain ⟨a0, a1, a2⟩ := check_zero h1
        obtain ⟨h3, h4⟩ := mem_four hx
        exact quot1_any x.1 x.2 (by omega) (by omega) (by omega) (by omega) (by omega) W) W
      have HC := hide hc
      rw [show quotS a b c d = combE (fun x y => mdE x y) a b c d by unfold quotS; rw [if_pos hv, if_neg hz]]
      clear hz h1 h2 hv c1 hc
      (unfold Gives; go_enter Try.func76, Try.ntmps76)
      go_wp2_with (first | (go_at_call 85; refine (valid_any _ _ _ _ _).mono ?_; intro _) | (go_at_call 92; refine (in_any _ _ _ _).mono ?_; intro _) | (go_at_call 93; refine (HC.out _).mono ?_; intro _))
      all_goals (refine bodyPost_give (by repeat (first | with_reducible exact Up.refl _ | with_reducible apply Up.plus | apply Up.ext | apply Up.alloc | apply Up.drew | (refine Up.setCell ?_ (by simp; try omega) _))) rfl ⟨_, (by simp [results, Try.results76, go_sem]; rfl), ?_⟩)
      all_goals rfl
  · have hvb : (validE a b c d != 0) = true := by simp [hv]
    rw [show quotS a b c d = (0, 0, validE a b c d) by unfold quotS; rw [if_neg hv]]
    clear hv
    (unfold Gives; go_enter Try.func76, Try.ntmps76)
    go_wp2_with (go_at_call 85; refine (valid_any _ _ _ _ _).mono ?_; intro _)
    all_goals (refine bodyPost_give (by repeat (first | with_reducible exact Up.refl _ | with_reducible apply Up.plus | apply Up.ext | apply Up.alloc | apply Up.drew | (refine Up.setCell ?_ (by simp; try omega) _))) rfl ⟨_, (by simp [results, Try.results76, go_sem]; rfl), ?_⟩)
    all_goals rfl

def squareS (a b : Int) : Int × Int × Int :=
  if checkE a b = 0 then (if 1073741824 < max (-a) b then (0, 0, 14) else endsS (max (max 0 a) (-b) * max (max 0 a) (-b)) (max (-a) b * max (-a) b)) else (0, 0, checkE a b)
theorem sq_bound (m : Int) (h0 : 0 ≤ m) (h1 : m ≤ 1073741824) : 0 ≤ m * m ∧ m * m ≤ 1152921504606846976 :=
  ⟨Int.mul_nonneg h0 h0, by have := Int.mul_le_mul h1 h1 h0 (by omega); omega⟩
theorem wrap64_id {n : Int} (h0 : -9223372036854775808 ≤ n) (h1 : n ≤ 9223372036854775807) : wrap64 n = n := by unfold wrap64; omega
theorem square_any (a b : Int) (w : World) : Gives Try.prog 63 #[.agg #[.int .i64 a, .int .i64 b]] w
    (.tuple #[.agg #[.int .i64 (squareS a b).1, .int .i64 (squareS a b).2.1], .int .i64 (squareS a b).2.2]) := by
  by_cases hv : checkE a b = 0
  · obtain ⟨a0, a1, a2⟩ := check_zero hv
    have hvb : (checkE a b != 0) = false := by simp [hv]
    have HE : squareS a b = if 1073741824 < max (-a) b then (0, 0, 14) else endsS (max (max 0 a) (-b) * max (max 0 a) (-b)) (max (-a) b * max (-a) b) := by unfold squareS; rw [if_pos hv]
    rw [HE]
    clear HE hv
    (unfold Gives; go_enter Try.func63, Try.ntmps63)
    go_wp2_with (go_at_call 79; refine (check_any _ _ _).mono ?_; intro _)
    go_region
    all_goals (go_wp2_with (go_at_call 80; refine (ends_any _ _ _).mono ?_; intro _))
    · (refine bodyPost_give (by repeat (first | with_reducible exact Up.refl _ | with_reducible apply Up.plus | apply Up.ext | apply Up.alloc | apply Up.drew | (refine Up.setCell ?_ (by simp; try omega) _))) rfl ⟨_, (by simp [results, Try.results63, go_sem]; rfl), ?_⟩)
      rfl
    · (refine bodyPost_give (by repeat (first | with_reducible exact Up.refl _ | with_reducible apply Up.plus | apply Up.ext | apply Up.alloc | apply Up.drew | (refine Up.setCell ?_ (by simp; try omega) _))) rfl ⟨_, (by simp [results, Try.results63, go_sem]; rfl), ?_⟩)
      have h1 := sq_bound (max 0 (max a (-b))) (by omega) (by omega)
      have h2 := sq_bound (max (-a) b) (by omega) (by omega)
      rw [wrap64_id (by omega) (by omega), wrap64_id (by omega) (by omega)]
  · have hvb : (checkE a b != 0) = true := by simp [hv]
    rw [show squareS a b = (0, 0, checkE a b) by unfold squareS; rw [if_neg hv]]
    clear hv
    (unfold Gives; go_enter Try.func63, Try.ntmps63)
    go_wp2_with (go_at_call 79; refine (check_any _ _ _).mono ?_; intro _)
    all_goals (refine bodyPost_give (by repeat (first | with_reducible exact Up.refl _ | with_reducible apply Up.plus | apply Up.ext | apply Up.alloc | apply Up.drew | (refine Up.setCell ?_ (by simp; try omega) _))) rfl ⟨_, (by simp [results, Try.results63, go_sem]; rfl), ?_⟩)
    all_goals rfl
end Go.Proofs.Ytbcgdhldkanecaa

