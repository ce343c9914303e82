/- Plain facts: heavier, farther, within the radius. No program. -/
import Derived.Test.YtbcgdhldkanecaaForceM
namespace Go.Proofs.Ytbcgdhldkanecaa
open Go.RowKit

/-- the pull on a place at (-x, 0) of a body at the origin -/
def gP (mu r x : Int) : Ar := pullP mu r (0, 0) (-x, -x, 0, 0)
def gS (r x : Int) : Int := max (x * x) (edgeV r)
theorem gP_val {mu r x : Int} (mu0 : 0 ≤ mu) (mu1 : mu ≤ 1000000) (r0 : 0 ≤ r) (r1 : r ≤ 40) (x0 : 1 ≤ x) (x1 : x ≤ 1000) :
    gP mu r x = (lowT mu (x, x) (gS r x, gS r x) (isq (gS r x), upq (gS r x)), -lowT mu (-x, -x) (gS r x, gS r x) (isq (gS r x), upq (gS r x)), 0, 0) := by
  have ho : OrdA 33554432 ((-x, -x, 0, 0) : Ar) := by unfold OrdA Ord arX arY; simp only; omega
  unfold gP
  rw [pullP_val mu0 (by omega) r0 (by omega) (by simp) (by simp) ho, toP_val (by simp) (by simp) ho]
  have hS : sqsL r ((0 - -x, 0 - -x, 0 - 0, 0 - 0) : Ar) = gS r x := by
    unfold sqsL gS lsz arX arY
    simp only [Int.zero_sub, Int.neg_neg, Int.neg_zero]
    rw [show max (max 0 x) (-x) = x by omega]
    simp
  have hH : sqsH r ((0 - -x, 0 - -x, 0 - 0, 0 - 0) : Ar) = gS r x := by
    unfold sqsH gS gsz arX arY
    simp only [Int.zero_sub, Int.neg_neg, Int.neg_zero]
    rw [show max (-x) x = x by omega]
    simp
  rw [hS, hH]
  obtain ⟨c0, c1⟩ := edge_bd r0 (show r ≤ 1048576 by omega)
  have s0 : 1 ≤ gS r x := by unfold gS; omega
  have s1 : gS r x ≤ 1099511627776 := by
    have := sq_mono (a := x) (b := 1000) (by omega) x1
    unfold gS; omega
  have i1 := isq_pos (x := gS r x) s0 (by omega)
  have i2 := upq_spec (x := gS r x) (by omega) (by omega)
  have zero : ∀ c : Int, 0 < c → floQ 0 c = 0 := fun c hc => by
    have h1 := flo_nonneg (p := 0) hc (by omega)
    have h2 := flo_in (p := 0) (m := 0) hc (by omega) (by omega) (by omega)
    omega
  have hz : lowT mu (0, 0) (gS r x, gS r x) (isq (gS r x), upq (gS r x)) = 0 := by
    unfold lowT lowN
    simp only [Int.mul_zero]
    rw [zero _ (by omega)]
    have : min (min (min (cl 1152921504606846976 0) (cl 1152921504606846976 0)) (cl 1152921504606846976 0)) (cl 1152921504606846976 0) = 0 := by decide
    rw [this, zero _ (by omega), zero _ (by omega)]
    decide
  unfold arX arY minusP
  simp only [Int.zero_sub, Int.neg_neg, Int.neg_zero, hz]

/-- monotone steps: numbers divided twice -/
theorem low_eq {mu x s : Int} {r : Sp} : lowT mu (x, x) (s, s) r = cl 1048576 (min (floQ (cl 1152921504606846976 (floQ (mu * x) s)) r.1) (floQ (cl 1152921504606846976 (floQ (mu * x) s)) r.2)) := by
  unfold lowT lowN
  simp only
  rw [show ∀ a : Int, min (min (min a a) a) a = a by omega]
theorem low_le {mu mu' x x' s s' : Int} {r r' : Sp} (h : cl 1152921504606846976 (floQ (mu * x) s) ≤ cl 1152921504606846976 (floQ (mu' * x') s')) (r0 : 0 < r.1) (r1 : 0 < r.2) (hr : r = r') : lowT mu (x, x) (s, s) r ≤ lowT mu' (x', x') (s', s') r' := by
  subst hr
  rw [low_eq, low_eq]
  apply cl_mono
  have h1 := flo_mono (c := r.1) r0 h
  have h2 := flo_mono (c := r.2) r1 h
  omega
theorem g_bd {r x : Int} (r0 : 0 ≤ r) (r1 : r ≤ 40) (x0 : 1 ≤ x) (x1 : x ≤ 1000) : 1 ≤ gS r x ∧ 0 < isq (gS r x) ∧ 0 < upq (gS r x) := by
  obtain ⟨c0, c1⟩ := edge_bd r0 (show r ≤ 1048576 by omega)
  have s0 : 1 ≤ gS r x := by unfold gS; omega
  have s1 : gS r x ≤ 1099511627776 := by
    have := sq_mono (a := x) (b := 1000) (by omega) x1
    unfold gS; omega
  have i1 := isq_pos (x := gS r x) s0 (by omega)
  have i2 := upq_spec (x := gS r x) (by omega) (by omega)
  omega
/-- heavier: no less -/
theorem g_heavier {mu m r x : Int} (mu0 : 0 ≤ mu) (m0 : 0 ≤ m) (mu1 : mu + m ≤ 1000000) (r0 : 0 ≤ r) (r1 : r ≤ 40) (x0 : 1 ≤ x) (x1 : x ≤ 1000) :
    (gP mu r x).1 ≤ (gP (mu + m) r x).1 ∧ (gP mu r x).2.1 ≤ (gP (mu + m) r x).2.1 := by
  rw [gP_val mu0 (by omega) r0 r1 x0 x1, gP_val (by omega) mu1 r0 r1 x0 x1]
  obtain ⟨s0, i0, u0⟩ := g_bd r0 r1 x0 x1
  have e1 : mu * x ≤ (mu + m) * x := Int.mul_le_mul_of_nonneg_right (by omega) (by omega)
  have e2 : (mu + m) * -x ≤ mu * -x := by rw [Int.mul_neg, Int.mul_neg]; omega
  have h1 := low_le (mu := mu) (mu' := mu + m) (x := x) (x' := x) (s := gS r x) (s' := gS r x) (r := (isq (gS r x), upq (gS r x))) (cl_mono (flo_mono (by omega) e1)) i0 u0 rfl
  have h2 := low_le (mu := mu + m) (mu' := mu) (x := -x) (x' := -x) (s := gS r x) (s' := gS r x) (r := (isq (gS r x), upq (gS r x))) (cl_mono (flo_mono (by omega) e2)) i0 u0 rfl
  exact ⟨h1, by simp only; omega⟩
/-- within the radius: nearer, no more -/
theorem g_within {mu r x f : Int} (mu0 : 0 ≤ mu) (mu1 : mu ≤ 1000000) (r0 : 0 ≤ r) (r1 : r ≤ 40) (x0 : 1 ≤ x) (f0 : 0 ≤ f) (hx : x + f ≤ r) :
    (gP mu r x).1 ≤ (gP mu r (x + f)).1 ∧ (gP mu r x).2.1 ≤ (gP mu r (x + f)).2.1 := by
  rw [gP_val mu0 (by omega) r0 r1 x0 (by omega), gP_val mu0 mu1 r0 r1 (by omega) (by omega)]
  have hs : ∀ y : Int, 1 ≤ y → y ≤ r → gS r y = r * r := fun y y0 y1 => by
    have h1 := sq_mono (a := y) (b := r) (by omega) y1
    have h2 := sq_mono (a := 1) (b := r) (by omega) (by omega)
    unfold gS edgeV; omega
  have g1 := g_bd r0 r1 x0 (show x ≤ 1000 by omega)
  rw [hs x x0 (by omega)] at g1 ⊢
  rw [hs (x + f) (by omega) hx]
  obtain ⟨s0, i0, u0⟩ := g1
  have e1 : mu * x ≤ mu * (x + f) := Int.mul_le_mul_of_nonneg_left (by omega) mu0
  have e2 : mu * -(x + f) ≤ mu * -x := Int.mul_le_mul_of_nonneg_left (by omega) mu0
  have h1 := low_le (mu := mu) (mu' := mu) (x := x) (x' := x + f) (s := r * r) (s' := r * r) (r := (isq (r * r), upq (r * r))) (cl_mono (flo_mono (by omega) e1)) i0 u0 rfl
  have h2 := low_le (mu := mu) (mu' := mu) (x := -(x + f)) (x' := -x) (s := r * r) (s' := r * r) (r := (isq (r * r), upq (r * r))) (cl_mono (flo_mono (by omega) e2)) i0 u0 rfl
  exact ⟨h1, by simp only; omega⟩
theorem isq_sq {x : Int} (x0 : 0 ≤ x) (x1 : x ≤ 1000000) : isq (x * x) = x ∧ upq (x * x) = x := by
  have hb := sq_mono x0 x1
  have e : (x + 1) * (x + 1) = x * x + 2 * x + 1 := by grind
  have h1 : isq (x * x) = x := (isq_eq (n := x * x) (r := x) (mul_self_nonneg x) (by omega) x0 (Int.le_refl _) (by omega)).symm
  refine ⟨h1, ?_⟩
  unfold upq
  rw [h1, if_neg (by omega)]
theorem flo_sq {mu x : Int} (x0 : 0 < x) : floQ (mu * x) (x * x) = floQ mu x := by
  have hxx : 0 < x * x := Int.mul_pos x0 x0
  have key : ∀ k : Int, k ≤ floQ (mu * x) (x * x) ↔ k ≤ floQ mu x := fun k => by
    rw [flo_le hxx, flo_le x0, ← Int.mul_assoc]
    exact ⟨fun h => Int.le_of_mul_le_mul_right h x0, fun h => Int.mul_le_mul_of_nonneg_right h (by omega)⟩
  have h1 := (key _).1 (Int.le_refl _)
  have h2 := (key _).2 (Int.le_refl _)
  omega
/-- of numbers above 0, divided by more: less, nearer 0 -/
theorem flo_far {p x y : Int} (x0 : 0 < x) (h : x ≤ y) : (0 ≤ p → floQ p y ≤ floQ p x) ∧ (p ≤ 0 → floQ p x ≤ floQ p y) := by
  refine ⟨fun hp => ?_, fun hp => ?_⟩
  · have h0 := flo_nonneg (p := p) (c := y) (by omega) hp
    have h1 := (flo_le (p := p) (c := y) (by omega) (floQ p y)).1 (Int.le_refl _)
    exact (flo_le x0 _).2 (Int.le_trans (Int.mul_le_mul_of_nonneg_left h h0) h1)
  · have h1 := (flo_le (p := p) (c := x) x0 (floQ p x)).1 (Int.le_refl _)
    have h0 : floQ p x ≤ 0 := by have := (flo_in (p := p) (c := x) (m := -p) x0 (by omega) (by omega) (by omega)).2
                                 rcases Int.lt_or_le 0 (floQ p x) with h | h
                                 · have := Int.mul_le_mul (show 1 ≤ floQ p x by omega) (show 1 ≤ x by omega) (by omega) (by omega); omega
                                 · exact h
    exact (flo_le (by omega) _).2 (Int.le_trans (Int.mul_le_mul_of_nonpos_left h0 h) h1)
/-- beyond the radius: farther, no more -/
theorem g_farther {mu r x f : Int} (mu0 : 0 ≤ mu) (mu1 : mu ≤ 1000000) (r0 : 0 ≤ r) (r1 : r ≤ 40) (x0 : 1 ≤ x) (x1 : x + f ≤ 1000) (f0 : 0 ≤ f) (hx : r ≤ x) :
    (gP mu r (x + f)).1 ≤ (gP mu r x).1 ∧ (gP mu r (x + f)).2.1 ≤ (gP mu r x).2.1 := by
  rw [gP_val mu0 (by omega) r0 r1 x0 (by omega), gP_val mu0 mu1 r0 r1 (by omega) (by omega)]
  have hs : ∀ y : Int, 1 ≤ y → r ≤ y → gS r y = y * y := fun y y0 y1 => by
    have h1 := sq_mono (a := r) (b := y) r0 y1
    have h2 := sq_mono (a := 1) (b := y) (by omega) y0
    unfold gS edgeV; omega
  rw [hs x x0 hx, hs (x + f) (by omega) (by omega)]
  obtain ⟨q1, q2⟩ := isq_sq (x := x) (by omega) (by omega)
  obtain ⟨q3, q4⟩ := isq_sq (x := x + f) (by omega) (by omega)
  rw [q1, q2, q3, q4]
  have val : ∀ (m y : Int), -1000000 ≤ m → m ≤ 1000000 → 1 ≤ y → lowT mu (y, y) (y * y, y * y) (y, y) = cl 1048576 (floQ (cl 1152921504606846976 (floQ mu y)) y) := fun m y _ _ y0 => by
    rw [low_eq, flo_sq (by omega)]
    simp only [Int.min_self]
  have val2 : ∀ (y : Int), 1 ≤ y → lowT mu (-y, -y) (y * y, y * y) (y, y) = cl 1048576 (floQ (cl 1152921504606846976 (floQ (-mu) y)) y) := fun y y0 => by
    rw [low_eq, show mu * -y = -mu * y by rw [Int.mul_neg, Int.neg_mul], flo_sq (by omega)]
    simp only [Int.min_self]
  rw [val 0 x (by omega) (by omega) x0, val 0 (x + f) (by omega) (by omega) (by omega), val2 x x0, val2 (x + f) (by omega)]
  have n1 := flo_in (p := mu) (c := x) (m := 1000000) (by omega) (by omega) (by omega) (by omega)
  have n2 := flo_in (p := mu) (c := x + f) (m := 1000000) (by omega) (by omega) (by omega) (by omega)
  have n3 := flo_in (p := -mu) (c := x) (m := 1000000) (by omega) (by omega) (by omega) (by omega)
  have n4 := flo_in (p := -mu) (c := x + f) (m := 1000000) (by omega) (by omega) (by omega) (by omega)
  rw [cl_id (a := floQ mu x) (by omega) (by omega), cl_id (a := floQ mu (x + f)) (by omega) (by omega), cl_id (a := floQ (-mu) x) (by omega) (by omega), cl_id (a := floQ (-mu) (x + f)) (by omega) (by omega)]
  have a1 := (flo_far (p := mu) (x := x) (y := x + f) (by omega) (by omega)).1 mu0
  have a2 := (flo_far (p := -mu) (x := x) (y := x + f) (by omega) (by omega)).2 (by omega)
  have b1 := flo_nonneg (p := mu) (c := x + f) (by omega) mu0
  have b2 : floQ (-mu) (x + f) ≤ 0 := by
    have h1 := (flo_le (p := -mu) (c := x + f) (by omega) (floQ (-mu) (x + f))).1 (Int.le_refl _)
    rcases Int.lt_or_le 0 (floQ (-mu) (x + f)) with h | h
    · have := Int.mul_le_mul (show 1 ≤ floQ (-mu) (x + f) by omega) (show 1 ≤ x + f by omega) (by omega) (by omega); omega
    · exact h
  have c1 := (flo_far (p := floQ mu (x + f)) (x := x) (y := x + f) (by omega) (by omega)).1 b1
  have c2 := flo_mono (c := x) (p := floQ mu (x + f)) (p' := floQ mu x) (by omega) a1
  have c3 := (flo_far (p := floQ (-mu) (x + f)) (x := x) (y := x + f) (by omega) (by omega)).2 b2
  have c4 := flo_mono (c := x) (p := floQ (-mu) x) (p' := floQ (-mu) (x + f)) (by omega) a2
  refine ⟨cl_mono (by omega), ?_⟩
  simp only
  have := cl_mono (m := 1048576) (show floQ (floQ (-mu) x) x ≤ floQ (floQ (-mu) (x + f)) (x + f) by omega)
  omega
theorem g_low {mu r x : Int} (mu0 : 0 ≤ mu) (mu1 : mu ≤ 1000000) (r0 : 0 ≤ r) (r1 : r ≤ 40) (x0 : 1 ≤ x) (x1 : x ≤ 1000) : 0 ≤ (gP mu r x).1 ∧ (gP mu r x).2.2 = (0, 0) := by
  rw [gP_val mu0 (by omega) r0 r1 x0 x1]
  obtain ⟨s0, i0, u0⟩ := g_bd r0 r1 x0 x1
  refine ⟨?_, rfl⟩
  simp only
  rw [low_eq]
  have h1 := flo_nonneg (p := mu * x) (c := gS r x) (by omega) (Int.mul_nonneg mu0 (by omega))
  have h2 : 0 ≤ cl 1152921504606846976 (floQ (mu * x) (gS r x)) := by unfold cl; omega
  have h3 := flo_nonneg (p := cl 1152921504606846976 (floQ (mu * x) (gS r x))) (c := isq (gS r x)) i0 h2
  have h4 := flo_nonneg (p := cl 1152921504606846976 (floQ (mu * x) (gS r x))) (c := upq (gS r x)) u0 h2
  simp only
  unfold cl at *
  omega
end Go.Proofs.Ytbcgdhldkanecaa
