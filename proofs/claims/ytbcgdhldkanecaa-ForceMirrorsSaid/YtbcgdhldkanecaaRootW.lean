/- The whole root of a number and of a span: the program's. -/
import Derived.Test.YtbcgdhldkanecaaRoot
import Derived.Test.YtbcgdhldkanecaaPlaneB
import Derived.Laws.Bits64b
namespace Go.Proofs.Ytbcgdhldkanecaa
open Go.RowKit

theorem RootAt.lt {n o B : Int} (h : RootAt n o B) (h1 : n < 18446744073709551616) : 0 ≤ B ∧ o + 2 * B ≤ 4294967296 := by
  obtain ⟨h2, h3, h4⟩ := h
  rcases h4 with ⟨rfl, h4⟩ | ⟨j, hj, rfl, hc, h5, h6⟩
  · have := lt_of_sq (a := o) (b := 4294967296) (by omega) (by omega)
    omega
  · have := Int.pow_pos (n := 2) (m := j) (by omega)
    omega

theorem RootAt.bit {n o B : Int} (h : RootAt n o B) (h1 : n < 18446744073709551616) (hB : 0 < B) : bits BinOp.or IntKind.u64 o B = o + B := by
  obtain ⟨l0, l1⟩ := h.lt h1
  obtain ⟨h2, h3, h4⟩ := h
  rcases h4 with ⟨rfl, h4⟩ | ⟨j, hj, rfl, ⟨c, hc⟩, h5, h6⟩
  · omega
  · have hp : ((2 : Int) ^ j) = ((2 ^ j : Nat) : Int) := by rw [Int.natCast_pow]; rfl
    have hb : 2 ^ j < 18446744073709551616 := Nat.lt_of_lt_of_eq (@Nat.pow_lt_pow_right 2 j 64 (by omega) (by omega)) (by decide)
    have hz : c * 2 ^ (j + 1) < 18446744073709551616 := by
      have h7 : 0 < (2 : Int) ^ j := Int.pow_pos (by omega)
      generalize c * 2 ^ (j + 1) = z at *
      omega
    rw [hp, hc, bits_or_u64_nat _ _ hz hb, ← Int.natCast_add]
    congr 1
    rw [Nat.mul_comm]
    exact (Nat.two_pow_add_eq_or_of_lt (Nat.pow_lt_pow_right (by omega) (by omega)) c).symm
theorem RootAt.done {n o : Int} (h : RootAt n o 0) (n0 : 0 ≤ n) (n1 : n < 18446744073709551616) : o = isq n := by
  refine isq_eq n0 n1 h.nonneg h.sq ?_
  rcases h.rest with ⟨_, h4⟩ | ⟨j, _, h5, _⟩
  · exact h4
  · have := Int.pow_pos (n := 2) (m := j) (by omega)
    omega

theorem root_any (n : Int) (n0 : 0 ≤ n) (n1 : n < 18446744073709551616) (w : World) : Gives Try.prog 101 #[.int .u64 n] w (.int .u64 (isq n)) := by
  (unfold Gives; go_enter Try.func101, Try.ntmps101)
  go_wp2
  go_loop [3, 4] (fun s3 s4 => ∃ o B : Int, s3 = .int .u64 o ∧ s4 = .int .u64 B ∧ Hid (RootAt n o B) ∧ 0 ≤ o ∧ 0 ≤ B ∧ o + 2 * B ≤ 4294967296) (fun _ s4 => (intOf s4).toNat)
  case atStart => exact ⟨0, 2147483648, rfl, rfl, hide (RootAt.start n n0 n1), by omega, by omega, by omega⟩
  case round =>
    obtain ⟨o, B, rfl, rfl, hR, o0, b0, ob⟩ := hrel
    by_cases hB : 0 < B
    · have hor := hR.out.bit n1 hB
      obtain ⟨X, hX⟩ : ∃ X, o + B = X := ⟨_, rfl⟩
      have hst := hR.out.step hB
      rw [hX] at hor hst
      have hXX := mul_bd (x := X) (y := X) (B := 4294967295) (C := 4294967295) (by omega) (by omega) (by omega) (by omega)
      have hX0 := mul_self_nonneg X
      have HS := hide hst
      clear hst
      go_wp2
      · have hle : X * X ≤ n := by assumption
        have hs := HS.out X (.inl ⟨rfl, hle⟩)
        exact ⟨⟨X, B / 2, rfl, rfl, hide hs, hs.nonneg, (hs.lt n1).1, (hs.lt n1).2⟩, by simp [intOf]; omega⟩
      · have hlt : n < X * X := by assumption
        have hs := HS.out o (.inr ⟨rfl, hlt⟩)
        exact ⟨⟨o, B / 2, rfl, rfl, hide hs, hs.nonneg, (hs.lt n1).1, (hs.lt n1).2⟩, by simp [intOf]; omega⟩
    · obtain rfl : B = 0 := by omega
      have hd := hide (hR.out.done n0 n1)
      go_wp2
      go_ret
      exact ⟨ret_int hd.out, Up.refl _⟩

def rootV (n : Int) : Int := if n < 0 then -1 else isq n
theorem Root_any (n : Int) (n0 : -9223372036854775808 ≤ n) (n1 : n ≤ 9223372036854775807) (w : World) : Gives Try.prog 91 #[.int .i64 n] w (.int .i64 (rootV n)) := by
  by_cases h : n < 0
  · rw [show rootV n = -1 by unfold rootV; rw [if_pos h]]
    (unfold Gives; go_enter Try.func91, Try.ntmps91)
    go_wp2
    go_ret
    exact ⟨rfl, (by repeat (first | with_reducible exact Up.refl _ | with_reducible apply Up.plus | apply Up.ext | apply Up.alloc | apply Up.drew | (refine Up.setCell ?_ (by simp; try omega) _)))⟩
  · rw [show rootV n = isq n by unfold rootV; rw [if_neg h]]
    obtain ⟨i0, i1, i2⟩ := isq_spec n (by omega) (by omega)
    have i3 := lt_of_sq (a := isq n) (b := 3037000500) (by omega) (by omega)
    have H := hide (fun W => root_any n (by omega) (by omega) W)
    generalize isq n = r at *
    clear i1 i2
    (unfold Gives; go_enter Try.func91, Try.ntmps91)
    go_wp2_with (go_at_call 101; (with_reducible refine (H.out _).mono ?_); intro _)
    go_ret
    exact ⟨rfl, (by repeat (first | with_reducible exact Up.refl _ | with_reducible apply Up.plus | apply Up.ext | apply Up.alloc | apply Up.drew | (refine Up.setCell ?_ (by simp; try omega) _)))⟩

/-- the span of roots -/
def rootsS (a b : Int) : Int × Int × Int := if checkE a b = 0 then (if a < 0 then (0, 0, 2) else (isq a, (if isq b * isq b < b then isq b + 1 else isq b), 0)) else (0, 0, checkE a b)
theorem roots_any (a b : Int) (w : World) : Gives Try.prog 75 #[.agg #[.int .i64 a, .int .i64 b]] w
    (.tuple #[.agg #[.int .i64 (rootsS a b).1, .int .i64 (rootsS a b).2.1], .int .i64 (rootsS a b).2.2]) := by
  by_cases hv : checkE a b = 0
  · obtain ⟨a0, a1, a2⟩ := check_zero hv
    have hvb : (checkE a b != 0) = false := by simp [hv]
    by_cases hn : a < 0
    · rw [show rootsS a b = (0, 0, 2) by unfold rootsS; rw [if_pos hv, if_pos hn]]
      clear hv
      (unfold Gives; go_enter Try.func75, Try.ntmps75)
      go_wp2_with (go_at_call 79; (with_reducible refine (check_any _ _ _).mono ?_); intro _)
      all_goals (refine bodyPost_give (by repeat (first | with_reducible exact Up.refl _ | with_reducible apply Up.plus | apply Up.ext | apply Up.alloc | apply Up.drew | (refine Up.setCell ?_ (by simp; try omega) _))) rfl ⟨_, (by simp [results, Try.results75, go_sem]; rfl), ?_⟩)
      all_goals rfl
    · rw [show rootsS a b = (isq a, (if isq b * isq b < b then isq b + 1 else isq b), 0) by unfold rootsS; rw [if_pos hv, if_neg hn]]
      obtain ⟨i0, i1, i2⟩ := isq_spec b (by omega) (by omega)
      have i3 := lt_of_sq (a := isq b) (b := 1073741825) (by omega) (by omega)
      have H1 := hide (fun W => Root_any a (by omega) (by omega) W)
      have H2 := hide (fun W => Root_any b (by omega) (by omega) W)
      rw [show rootV a = isq a by unfold rootV; rw [if_neg (by omega)]] at H1
      rw [show rootV b = isq b by unfold rootV; rw [if_neg (by omega)]] at H2
      generalize isq b = r at *
      generalize isq a = q at *
      clear i2 hv
      have i4 := mul_bd (x := r) (y := r) (B := 1073741824) (C := 1073741824) (by omega) (by omega) (by omega) (by omega)
      have hn' : 0 ≤ a := by omega
      (unfold Gives; go_enter Try.func75, Try.ntmps75)
      go_wp2_with (first | (go_at_call 79; (with_reducible refine (check_any _ _ _).mono ?_); intro _) | (go_at_call 91; (with_reducible refine (H1.out _).mono ?_); intro _) | (go_at_call 91; (with_reducible refine (H2.out _).mono ?_); intro _))
      all_goals (refine bodyPost_give (by repeat (first | with_reducible exact Up.refl _ | with_reducible apply Up.plus | apply Up.ext | apply Up.alloc | apply Up.drew | (refine Up.setCell ?_ (by simp; try omega) _))) rfl ⟨_, (by simp [results, Try.results75, go_sem]; rfl), ?_⟩)
      all_goals (first | rfl | (exfalso; omega))
  · have hvb : (checkE a b != 0) = true := by simp [hv]
    rw [show rootsS a b = (0, 0, checkE a b) by unfold rootsS; rw [if_neg hv]]
    clear hv
    (unfold Gives; go_enter Try.func75, Try.ntmps75)
    go_wp2_with (go_at_call 79; (with_reducible refine (check_any _ _ _).mono ?_); intro _)
    all_goals (refine bodyPost_give (by repeat (first | with_reducible exact Up.refl _ | with_reducible apply Up.plus | apply Up.ext | apply Up.alloc | apply Up.drew | (refine Up.setCell ?_ (by simp; try omega) _))) rfl ⟨_, (by simp [results, Try.results75, go_sem]; rfl), ?_⟩)
    all_goals rfl
end Go.Proofs.Ytbcgdhldkanecaa
