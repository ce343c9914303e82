/- The whole root of a number, in plain integers: found bit by bit; its square is at most the number, that of the next one greater. No program. -/
import Derived.KernelRfl
namespace Go.Proofs.YtnaiaodnnmhdkaaGreat
set_option linter.unusedVariables false
set_option linter.unusedSimpArgs false

def rootGo : Nat → Nat → Nat → Nat
  | 0, _, o => o
  | k + 1, n, o => rootGo k n (if (o + 2 ^ k) * (o + 2 ^ k) ≤ n then o + 2 ^ k else o)
theorem rootGo_spec : ∀ (k n o : Nat), o * o ≤ n → n < (o + 2 ^ k) * (o + 2 ^ k) → rootGo k n o * rootGo k n o ≤ n ∧ n < (rootGo k n o + 1) * (rootGo k n o + 1)
  | 0, n, o, h1, h2 => by simp [rootGo]; exact ⟨h1, by simpa using h2⟩
  | k + 1, n, o, h1, h2 => by
    unfold rootGo
    split
    · rename_i h
      exact rootGo_spec k n _ h (by rw [Nat.pow_succ] at h2; rw [show o + 2 ^ k + 2 ^ k = o + 2 ^ k * 2 by omega]; exact h2)
    · rename_i h
      exact rootGo_spec k n o h1 (by omega)

/-- the whole root -/
def isq (n : Int) : Int := (rootGo 32 n.toNat 0 : Nat)

theorem isq_spec (n : Int) (h0 : 0 ≤ n) (h1 : n < 18446744073709551616) : 0 ≤ isq n ∧ isq n * isq n ≤ n ∧ n < (isq n + 1) * (isq n + 1) := by
  obtain ⟨m, rfl⟩ := Int.eq_ofNat_of_zero_le h0
  have h := rootGo_spec 32 m 0 (by omega) (by simp; omega)
  unfold isq
  simp only [Int.toNat_natCast]
  generalize rootGo 32 m 0 = r at *
  refine ⟨by omega, ?_, ?_⟩
  · have : ((r * r : Nat) : Int) ≤ (m : Int) := by omega
    rwa [Int.natCast_mul] at this
  · have h2 : (m : Int) < (((r + 1) * (r + 1) : Nat) : Int) := by omega
    rw [Int.natCast_mul, Int.natCast_add] at h2
    exact h2

theorem sq_le_sq {a b : Int} (h0 : 0 ≤ a) (h : a ≤ b) : a * a ≤ b * b := Int.mul_le_mul h h h0 (by omega)
theorem sq_lt_sq {a b : Int} (h0 : 0 ≤ a) (h : a < b) : a * a < b * b := by
  have h1 : (a + 1) * (a + 1) ≤ b * b := sq_le_sq (by omega) (by omega)
  have h2 : (a + 1) * (a + 1) = a * a + 2 * a + 1 := by grind
  omega
theorem le_of_sq {a b : Int} (h0 : 0 ≤ b) (h : a * a ≤ b * b) : a ≤ b := by
  by_cases hc : a ≤ b
  · exact hc
  · have := sq_lt_sq h0 (show b < a by omega)
    omega
theorem lt_of_sq {a b : Int} (h0 : 0 ≤ b) (h : a * a < b * b) : a < b := by
  by_cases hc : a < b
  · exact hc
  · have := sq_le_sq h0 (show b ≤ a by omega)
    omega

theorem isq_eq {n r : Int} (h0 : 0 ≤ n) (h1 : n < 18446744073709551616) (hr : 0 ≤ r) (h2 : r * r ≤ n) (h3 : n < (r + 1) * (r + 1)) : r = isq n := by
  obtain ⟨a, b, c⟩ := isq_spec n h0 h1
  have p1 : r < isq n + 1 := lt_of_sq (by omega) (by omega)
  have p2 : isq n < r + 1 := lt_of_sq (by omega) (by omega)
  omega

/-- one bit more: what has been found, below what -/
structure RootAt (n o B : Int) : Prop where
  nonneg : 0 ≤ o
  sq : o * o ≤ n
  rest : (B = 0 ∧ n < (o + 1) * (o + 1)) ∨ (∃ j : Nat, j ≤ 31 ∧ B = 2 ^ j ∧ (∃ c : Nat, o = ((c * 2 ^ (j + 1) : Nat) : Int)) ∧ o + 2 * B ≤ 4294967296 ∧ n < (o + 2 * B) * (o + 2 * B))

theorem RootAt.start (n : Int) (h0 : 0 ≤ n) (h1 : n < 18446744073709551616) : RootAt n 0 2147483648 :=
  ⟨by omega, by omega, .inr ⟨31, by omega, by rfl, ⟨0, by simp⟩, by omega, by omega⟩⟩

theorem half_pow (j : Nat) : (2 : Int) ^ (j + 1) / 2 = 2 ^ j := by
  rw [Int.pow_succ]; exact Int.mul_ediv_cancel _ (by omega)

theorem RootAt.step {n o B : Int} (h : RootAt n o B) (hB : 0 < B) : ∀ o', (o' = o + B ∧ (o + B) * (o + B) ≤ n ∨ o' = o ∧ n < (o + B) * (o + B)) → RootAt n o' (B / 2) := by
  intro o' ho
  obtain ⟨h1, h2, h3⟩ := h
  rcases h3 with ⟨rfl, _⟩ | ⟨j, hj, rfl, ⟨c, hc⟩, h4, h5⟩
  · omega
  · have key : n < (o' + 2 ^ j) * (o' + 2 ^ j) := by
      rcases ho with ⟨rfl, _⟩ | ⟨rfl, h⟩
      · rw [show o + 2 ^ j + 2 ^ j = o + 2 * 2 ^ j by omega]; exact h5
      · exact h
    have hp0 : (0 : Int) < 2 ^ j := Int.pow_pos (by omega)
    have ho0 : 0 ≤ o' := by rcases ho with ⟨h, _⟩ | ⟨h, _⟩ <;> rw [h] <;> omega
    refine ⟨ho0, (by rcases ho with ⟨h, h'⟩ | ⟨h, h'⟩ <;> rw [h] <;> assumption), ?_⟩
    cases j with
    | zero => left; exact ⟨by decide, by simpa using key⟩
    | succ j =>
      right
      refine ⟨j, by omega, half_pow j, ?_, ?_, ?_⟩
      · have hp : ((2 : Int) ^ (j + 1)) = ((2 ^ (j + 1) : Nat) : Int) := by rw [Int.natCast_pow]; rfl
        rcases ho with ⟨rfl, _⟩ | ⟨rfl, h⟩
        · refine ⟨2 * c + 1, ?_⟩
          rw [hc, hp, ← Int.natCast_add]
          congr 1
          rw [Nat.pow_succ 2 (j + 1)]
          generalize 2 ^ (j + 1) = z
          grind
        · refine ⟨2 * c, ?_⟩
          rw [hc]
          congr 1
          rw [Nat.pow_succ 2 (j + 1)]
          generalize 2 ^ (j + 1) = z
          grind
      · rw [half_pow, show 2 * (2 : Int) ^ j = 2 ^ (j + 1) by rw [Int.pow_succ]; omega]
        omega
      · rw [half_pow, show 2 * (2 : Int) ^ j = 2 ^ (j + 1) by rw [Int.pow_succ]; omega]
        exact key
end Go.Proofs.YtnaiaodnnmhdkaaGreat
