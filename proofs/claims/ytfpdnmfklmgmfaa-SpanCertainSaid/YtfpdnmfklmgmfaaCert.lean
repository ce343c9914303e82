/- Plain facts about what surely comes within r of the origin, and what surely does not: triangles, rectangles, the places of two areas. No program. -/
import Derived.Test.YtfpdnmfklmgmfaaHitsb
import Derived.Test.YtfpdnmfklmgmfaaPlain
import Derived.Test.YtfpdnmfklmgmfaaSigns
namespace Go.Proofs.Ytfpdnmfklmgmfaa
open Go.RowKit

theorem le_of_mul_le {a b c : Int} (hc : 0 < c) (h : c * a ≤ c * b) : a ≤ b := Int.le_of_mul_le_mul_left h hc

/-- a place of the segment within r: the segment comes within r -/
theorem comes_of_point {px py qx qy r k d : Int} (d0 : 0 < d) (k0 : 0 ≤ k) (k1 : k ≤ d) (h : sqV ((d - k) * px + k * qx) ((d - k) * py + k * qy) ≤ r * r * (d * d)) : comesB px py qx qy r = true := by
  obtain ⟨dx, hdx⟩ : ∃ dx, qx - px = dx := ⟨_, rfl⟩
  obtain ⟨dy, hdy⟩ : ∃ dy, qy - py = dy := ⟨_, rfl⟩
  obtain rfl : qx = px + dx := by omega
  obtain rfl : qy = py + dy := by omega
  obtain ⟨m, hm⟩ : ∃ m, px * dx + py * dy = m := ⟨_, rfl⟩
  obtain ⟨L, hL⟩ : ∃ L, dx * dx + dy * dy = L := ⟨_, rfl⟩
  obtain ⟨A, hA⟩ : ∃ A, px * px + py * py = A := ⟨_, rfl⟩
  have hL0 : 0 ≤ L := by have := mul_self_nonneg dx; have := mul_self_nonneg dy; omega
  have hdd : 0 < d * d := Int.mul_pos d0 d0
  have hkL : 0 ≤ k * k * L := Int.mul_nonneg (mul_self_nonneg k) hL0
  have hjL : 0 ≤ (d - k) * (d - k) * L := Int.mul_nonneg (mul_self_nonneg _) hL0
  have hsq : sqV ((d - k) * px + k * (px + dx)) ((d - k) * py + k * (py + dy)) = d * d * A + 2 * (d * k * m) + k * k * L := by
    rw [← hm, ← hL, ← hA]; unfold sqV; grind
  rw [hsq] at h
  unfold comesB
  have e1 : px * (px + dx - px) + py * (py + dy - py) = m := by rw [← hm]; grind
  have e2 : (px + dx) * (px + dx - px) + (py + dy) * (py + dy - py) = m + L := by rw [← hm, ← hL]; grind
  have e3 : sqV px py = A := hA
  have e4 : sqV (px + dx) (py + dy) = A + 2 * m + L := by rw [← hm, ← hL, ← hA]; unfold sqV; grind
  have e5 : sqV (px + dx - px) (py + dy - py) = L := by rw [← hL]; unfold sqV; grind
  rw [e1, e2, e3, e4, e5]
  split
  · rename_i c
    have h2 : 0 ≤ d * k * m := Int.mul_nonneg (Int.mul_nonneg (by omega) k0) c
    simp only [decide_eq_true_eq]
    refine le_of_mul_le hdd ?_
    have : d * d * (r * r) = r * r * (d * d) := Int.mul_comm _ _
    omega
  · rename_i c
    split
    · rename_i c2
      have h2 : 0 ≤ d * (d - k) * -(m + L) := Int.mul_nonneg (Int.mul_nonneg (by omega) (by omega)) (by omega)
      simp only [decide_eq_true_eq]
      refine le_of_mul_le hdd ?_
      have e : d * d * (A + 2 * m + L) = d * d * A + 2 * (d * k * m) + k * k * L - 2 * (d * (d - k) * -(m + L)) - (d - k) * (d - k) * L := by grind
      have : d * d * (r * r) = r * r * (d * d) := Int.mul_comm _ _
      omega
    · rename_i c2
      simp only [decide_eq_true_eq]
      obtain ⟨C, hC⟩ : ∃ C, px * (py + dy) - py * (px + dx) = C := ⟨_, rfl⟩
      rw [hC]
      have hc : C * C + m * m = A * L := by rw [← hC, ← hm, ← hL, ← hA]; grind
      have hLL := Int.mul_le_mul_of_nonneg_right h hL0
      have e : (d * d * A + 2 * (d * k * m) + k * k * L) * L = d * d * (C * C) + (d * m + k * L) * (d * m + k * L) := by
        have : d * d * (A * L) = d * d * (C * C + m * m) := by rw [hc]
        grind
      have hs := mul_self_nonneg (d * m + k * L)
      refine le_of_mul_le hdd ?_
      have : d * d * (r * r * L) = r * r * (d * d) * L := by grind
      omega

/-- such a place there is, if the segment comes within r -/
theorem point_of_comes {px py qx qy r : Int} (h : comesB px py qx qy r = true) : ∃ k d : Int, 0 < d ∧ 0 ≤ k ∧ k ≤ d ∧ sqV ((d - k) * px + k * qx) ((d - k) * py + k * qy) ≤ r * r * (d * d) := by
  obtain ⟨dx, hdx⟩ : ∃ dx, qx - px = dx := ⟨_, rfl⟩
  obtain ⟨dy, hdy⟩ : ∃ dy, qy - py = dy := ⟨_, rfl⟩
  obtain rfl : qx = px + dx := by omega
  obtain rfl : qy = py + dy := by omega
  obtain ⟨m, hm⟩ : ∃ m, px * dx + py * dy = m := ⟨_, rfl⟩
  obtain ⟨L, hL⟩ : ∃ L, dx * dx + dy * dy = L := ⟨_, rfl⟩
  obtain ⟨A, hA⟩ : ∃ A, px * px + py * py = A := ⟨_, rfl⟩
  have hsq : ∀ k d : Int, sqV ((d - k) * px + k * (px + dx)) ((d - k) * py + k * (py + dy)) = d * d * A + 2 * (d * k * m) + k * k * L := fun k d => by
    rw [← hm, ← hL, ← hA]; unfold sqV; grind
  unfold comesB at h
  have e1 : px * (px + dx - px) + py * (py + dy - py) = m := by rw [← hm]; grind
  have e2 : (px + dx) * (px + dx - px) + (py + dy) * (py + dy - py) = m + L := by rw [← hm, ← hL]; grind
  have e3 : sqV px py = A := hA
  have e4 : sqV (px + dx) (py + dy) = A + 2 * m + L := by rw [← hm, ← hL, ← hA]; unfold sqV; grind
  have e5 : sqV (px + dx - px) (py + dy - py) = L := by rw [← hL]; unfold sqV; grind
  rw [e1, e2, e3, e4, e5] at h
  split at h
  · simp only [decide_eq_true_eq] at h
    exact ⟨0, 1, by omega, by omega, by omega, by rw [hsq]; omega⟩
  · rename_i c
    split at h
    · simp only [decide_eq_true_eq] at h
      exact ⟨1, 1, by omega, by omega, by omega, by rw [hsq]; omega⟩
    · rename_i c2
      simp only [decide_eq_true_eq] at h
      obtain ⟨C, hC⟩ : ∃ C, px * (py + dy) - py * (px + dx) = C := ⟨_, rfl⟩
      rw [hC] at h
      have hc : C * C + m * m = A * L := by rw [← hC, ← hm, ← hL, ← hA]; grind
      refine ⟨-m, L, by omega, by omega, by omega, ?_⟩
      rw [hsq]
      have h2 := Int.mul_le_mul_of_nonneg_left h (show 0 ≤ L by omega)
      have e : L * L * A + 2 * (L * -m * m) + -m * -m * L = L * (C * C) := by
        have : L * (C * C + m * m) = L * (A * L) := by rw [hc]
        grind
      have e' : L * (r * r * L) = r * r * (L * L) := by grind
      omega

/-- a place before z on the ray through z is as near -/
theorem ray_near {n1 n2 zx zy wx wy s e r : Int} (s0 : 0 < s) (e0 : 0 < e) (nz : 0 < n1 * zx + n2 * zy) (nw : 0 < n1 * wx + n2 * wy) (hX : zx * wy - zy * wx = 0)
    (hle : (n1 * wx + n2 * wy) * s ≤ (n1 * zx + n2 * zy) * e) (hz : sqV zx zy ≤ r * r * (s * s)) : sqV wx wy ≤ r * r * (e * e) := by
  obtain ⟨Z, hZ⟩ : ∃ Z, n1 * zx + n2 * zy = Z := ⟨_, rfl⟩
  obtain ⟨W, hW⟩ : ∃ W, n1 * wx + n2 * wy = W := ⟨_, rfl⟩
  rw [hZ, hW] at hle
  rw [hZ] at nz
  rw [hW] at nw
  have e1 : W * zx = Z * wx := by
    have : W * zx - Z * wx = n2 * (zx * wy - zy * wx) := by rw [← hZ, ← hW]; grind
    rw [hX, Int.mul_zero] at this; omega
  have e2 : W * zy = Z * wy := by
    have : W * zy - Z * wy = -(n1 * (zx * wy - zy * wx)) := by rw [← hZ, ← hW]; grind
    rw [hX, Int.mul_zero] at this; omega
  have e3 : Z * Z * sqV wx wy = W * W * sqV zx zy := by
    have h1 : (W * zx) * (W * zx) = (Z * wx) * (Z * wx) := by rw [e1]
    have h2 : (W * zy) * (W * zy) = (Z * wy) * (Z * wy) := by rw [e2]
    unfold sqV; grind
  have h4 := Int.mul_le_mul_of_nonneg_left hz (mul_self_nonneg W)
  have h5 : (W * s) * (W * s) ≤ (Z * e) * (Z * e) := Int.mul_le_mul hle hle (Int.le_of_lt (Int.mul_pos nw s0)) (Int.le_of_lt (Int.mul_pos nz e0))
  have h6 := Int.mul_le_mul_of_nonneg_left h5 (mul_self_nonneg r)
  refine le_of_mul_le (Int.mul_pos nz nz) ?_
  have e7 : r * r * (W * s * (W * s)) = W * W * (r * r * (s * s)) := by grind
  have e8 : r * r * (Z * e * (Z * e)) = Z * Z * (r * r * (e * e)) := by grind
  omega

/-- a side that the ray through z meets, and that does not come within r, is met behind z -/
theorem side_behind {n1 n2 zx zy s r ux uy vx vy : Int} (s0 : 0 < s) (hz : sqV zx zy ≤ r * r * (s * s)) (nz : 0 < n1 * zx + n2 * zy) (nu : 0 < n1 * ux + n2 * uy) (nv : 0 < n1 * vx + n2 * vy)
    (hc : comesB ux uy vx vy r = false) (c1 : 0 ≤ zx * uy - zy * ux) (c2 : zx * vy - zy * vx ≤ 0) (hne : 0 < (zx * uy - zy * ux) - (zx * vy - zy * vx)) :
    0 < (zx * uy - zy * ux) * ((n1 * vx + n2 * vy) * s - (n1 * zx + n2 * zy)) - (zx * vy - zy * vx) * ((n1 * ux + n2 * uy) * s - (n1 * zx + n2 * zy)) := by
  obtain ⟨a, ha⟩ : ∃ a, zx * uy - zy * ux = a := ⟨_, rfl⟩
  obtain ⟨b, hb⟩ : ∃ b, -(zx * vy - zy * vx) = b := ⟨_, rfl⟩
  obtain ⟨Z, hZ⟩ : ∃ Z, n1 * zx + n2 * zy = Z := ⟨_, rfl⟩
  obtain ⟨U, hU⟩ : ∃ U, n1 * ux + n2 * uy = U := ⟨_, rfl⟩
  obtain ⟨V, hV⟩ : ∃ V, n1 * vx + n2 * vy = V := ⟨_, rfl⟩
  have hb' : zx * vy - zy * vx = -b := by omega
  refine Int.not_le.1 fun hcon => ?_
  rw [ha, hb', hZ, hU, hV] at hcon
  rw [ha, hb'] at hne
  have a0 : 0 ≤ a := by omega
  have b0 : 0 ≤ b := by omega
  have e0 : 0 < a + b := by omega
  have hw : n1 * (b * ux + a * vx) + n2 * (b * uy + a * vy) = b * U + a * V := by rw [← hU, ← hV]; grind
  have hwp : 0 < b * U + a * V := by
    by_cases h : 0 < a
    · have := Int.mul_pos h (hV ▸ nv); have := Int.mul_nonneg b0 (Int.le_of_lt (hU ▸ nu)); omega
    · have h0 : a = 0 := by omega
      have := Int.mul_pos (show 0 < b by omega) (hU ▸ nu)
      rw [h0]; omega
  have hX : zx * (b * uy + a * vy) - zy * (b * ux + a * vx) = 0 := by
    have : zx * (b * uy + a * vy) - zy * (b * ux + a * vx) = b * (zx * uy - zy * ux) + a * (zx * vy - zy * vx) := by grind
    rw [this, ha, hb']; grind
  have hr := ray_near (n1 := n1) (n2 := n2) (e := a + b) s0 e0 nz (by rw [hw]; exact hwp) hX (by rw [hw, hZ]; grind) hz
  have := comes_of_point (px := ux) (py := uy) (qx := vx) (qy := vy) (r := r) (k := a) (d := a + b) e0 a0 (by omega) (by rw [show a + b - a = b by omega]; exact hr)
  rw [hc] at this
  exact absurd this (by simp)

theorem fin_three {a b c x y z : Int} (a0 : 0 ≤ a) (b0 : 0 ≤ b) (c0 : 0 ≤ c) (s0 : 0 < a + b + c) (hx : a = 0 ∨ 0 < x) (hy : b = 0 ∨ 0 < y) (hz : c = 0 ∨ 0 < z) (h : a * x + b * y + c * z = 0) : False := by
  have hp : ∀ m t : Int, 0 ≤ m → (m = 0 ∨ 0 < t) → 0 ≤ m * t ∧ (0 < m → 0 < m * t) := fun m t m0 hm => by
    rcases hm with rfl | ht
    · exact ⟨by omega, by omega⟩
    · exact ⟨Int.mul_nonneg m0 (by omega), fun h => Int.mul_pos h ht⟩
  obtain ⟨h1, h2⟩ := hp a x a0 hx
  obtain ⟨h3, h4⟩ := hp b y b0 hy
  obtain ⟨h5, h6⟩ := hp c z c0 hz
  omega

/-- three places in the plane, of which the one lies on one side and the others on the other, no side of them below 0: they have no mean at 0 -/
theorem core_three {a b c x1 x2 x3 y1 y2 y3 : Int} (a0 : 0 ≤ a) (b0 : 0 ≤ b) (c0 : 0 ≤ c) (s0 : 0 < a + b + c) (hx : a * x1 + b * x2 + c * x3 = 0) (hy : a * y1 + b * y2 + c * y3 = 0)
    (h1 : 0 ≤ x1) (h2 : x2 ≤ 0) (h3 : x3 ≤ 0) (v1 : x1 = 0 → 0 < y1) (v2 : x2 = 0 → 0 < y2) (v3 : x3 = 0 → 0 < y3)
    (t2 : 0 < x1 - x2 → 0 < x1 * y2 - x2 * y1) (t3 : 0 < x1 - x3 → 0 < x1 * y3 - x3 * y1) : False := by
  have e : b * (x1 * y2 - x2 * y1) + c * (x1 * y3 - x3 * y1) = 0 := by
    have g1 : x1 * (a * y1 + b * y2 + c * y3) - y1 * (a * x1 + b * x2 + c * x3) = b * (x1 * y2 - x2 * y1) + c * (x1 * y3 - x3 * y1) := by grind
    rw [hx, hy] at g1; omega
  by_cases h0 : x1 = 0
  · have hb := Int.mul_nonpos_of_nonneg_of_nonpos b0 h2
    have hc := Int.mul_nonpos_of_nonneg_of_nonpos c0 h3
    rw [h0, Int.mul_zero] at hx
    refine fin_three a0 b0 c0 s0 (.inr (v1 h0)) ?_ ?_ hy
    · by_cases hz : x2 = 0
      · exact .inr (v2 hz)
      · left
        have : b * x2 = 0 := by omega
        rcases Int.mul_eq_zero.1 this with h | h
        · exact h
        · exact absurd h hz
    · by_cases hz : x3 = 0
      · exact .inr (v3 hz)
      · left
        have : c * x3 = 0 := by omega
        rcases Int.mul_eq_zero.1 this with h | h
        · exact h
        · exact absurd h hz
  · have p2 := t2 (by omega)
    have p3 := t3 (by omega)
    have q2 := Int.mul_nonneg b0 (Int.le_of_lt p2)
    have q3 := Int.mul_nonneg c0 (Int.le_of_lt p3)
    have b1 : b = 0 := by
      rcases Int.mul_eq_zero.1 (show b * (x1 * y2 - x2 * y1) = 0 by omega) with h | h
      · exact h
      · omega
    have c1 : c = 0 := by
      rcases Int.mul_eq_zero.1 (show c * (x1 * y3 - x3 * y1) = 0 by omega) with h | h
      · exact h
      · omega
    rw [b1, c1] at hx
    rcases Int.mul_eq_zero.1 (show a * x1 = 0 by omega) with h | h <;> omega
theorem same_three {a b c x1 x2 x3 y1 y2 y3 : Int} (a0 : 0 ≤ a) (b0 : 0 ≤ b) (c0 : 0 ≤ c) (s0 : 0 < a + b + c) (hx : a * x1 + b * x2 + c * x3 = 0) (hy : a * y1 + b * y2 + c * y3 = 0)
    (h1 : 0 ≤ x1) (h2 : 0 ≤ x2) (h3 : 0 ≤ x3) (v1 : x1 = 0 → 0 < y1) (v2 : x2 = 0 → 0 < y2) (v3 : x3 = 0 → 0 < y3) : False := by
  have m1 := Int.mul_nonneg a0 h1
  have m2 := Int.mul_nonneg b0 h2
  have m3 := Int.mul_nonneg c0 h3
  have g : ∀ t x y : Int, t * x = 0 → (x = 0 → 0 < y) → (t = 0 ∨ 0 < y) := fun t x y h hv => by
    rcases Int.mul_eq_zero.1 h with h | h
    · exact .inl h
    · exact .inr (hv h)
  exact fin_three a0 b0 c0 s0 (g a x1 y1 (by omega) v1) (g b x2 y2 (by omega) v2) (g c x3 y3 (by omega) v3) hy

/-- THE TRIANGLE: on one side of the origin, no side within r: none of its places is within r -/
theorem tri_far {n1 n2 r ux uy vx vy qx qy a b c : Int} (nu : 0 < n1 * ux + n2 * uy) (nv : 0 < n1 * vx + n2 * vy) (nq : 0 < n1 * qx + n2 * qy)
    (huv : comesB ux uy vx vy r = false) (huq : comesB ux uy qx qy r = false) (hvq : comesB vx vy qx qy r = false) (a0 : 0 ≤ a) (b0 : 0 ≤ b) (c0 : 0 ≤ c) (s0 : 0 < a + b + c) :
    r * r * ((a + b + c) * (a + b + c)) < sqV (a * ux + b * vx + c * qx) (a * uy + b * vy + c * qy) := by
  refine Int.not_le.1 fun hz => ?_
  obtain ⟨zx, hzx⟩ : ∃ zx, a * ux + b * vx + c * qx = zx := ⟨_, rfl⟩
  obtain ⟨zy, hzy⟩ : ∃ zy, a * uy + b * vy + c * qy = zy := ⟨_, rfl⟩
  obtain ⟨s, hs⟩ : ∃ s, a + b + c = s := ⟨_, rfl⟩
  have hZ : n1 * zx + n2 * zy = a * (n1 * ux + n2 * uy) + b * (n1 * vx + n2 * vy) + c * (n1 * qx + n2 * qy) := by rw [← hzx, ← hzy]; grind
  have nz : 0 < n1 * zx + n2 * zy := by
    have h1 := Int.mul_nonneg a0 (Int.le_of_lt nu)
    have h2 := Int.mul_nonneg b0 (Int.le_of_lt nv)
    have h3 := Int.mul_nonneg c0 (Int.le_of_lt nq)
    rw [hZ]
    refine Int.not_le.1 fun h => ?_
    have g : ∀ t x : Int, 0 < x → t * x = 0 → t = 0 := fun t x hx h => by
      rcases Int.mul_eq_zero.1 h with h | h <;> omega
    have := g a _ nu (by omega)
    have := g b _ nv (by omega)
    have := g c _ nq (by omega)
    omega
  have hvu := (comes_swap ux uy vx vy r).trans huv
  have hqu := (comes_swap ux uy qx qy r).trans huq
  have hqv := (comes_swap vx vy qx qy r).trans hvq
  rw [hzx, hzy, hs] at hz
  have sp : 0 < s := by omega
  have vert : ∀ wx wy tx ty : Int, 0 < n1 * wx + n2 * wy → comesB wx wy tx ty r = false → zx * wy - zy * wx = 0 → 0 < (n1 * wx + n2 * wy) * s - (n1 * zx + n2 * zy) := fun wx wy tx ty nw hc hX => by
    refine Int.not_le.1 fun hle => ?_
    have := ray_near (e := 1) sp (by omega) nz nw hX (by omega) hz
    rw [comes_p (by omega)] at hc
    exact absurd hc (by simp)
  have X : a * (zx * uy - zy * ux) + b * (zx * vy - zy * vx) + c * (zx * qy - zy * qx) = 0 := by rw [← hzx, ← hzy]; grind
  have Y : a * ((n1 * ux + n2 * uy) * s - (n1 * zx + n2 * zy)) + b * ((n1 * vx + n2 * vy) * s - (n1 * zx + n2 * zy)) + c * ((n1 * qx + n2 * qy) * s - (n1 * zx + n2 * zy)) = 0 := by
    have : a * ((n1 * ux + n2 * uy) * s - (n1 * zx + n2 * zy)) + b * ((n1 * vx + n2 * vy) * s - (n1 * zx + n2 * zy)) + c * ((n1 * qx + n2 * qy) * s - (n1 * zx + n2 * zy)) = (a * (n1 * ux + n2 * uy) + b * (n1 * vx + n2 * vy) + c * (n1 * qx + n2 * qy)) * s - (a + b + c) * (n1 * zx + n2 * zy) := by grind
    rw [this, ← hZ, hs]; grind
  have Vu := vert ux uy vx vy nu huv
  have Vv := vert vx vy ux uy nv hvu
  have Vq := vert qx qy ux uy nq hqu
  have Suv := side_behind (zx := zx) (zy := zy) sp hz nz nu nv huv
  have Svu := side_behind (zx := zx) (zy := zy) sp hz nz nv nu hvu
  have Suq := side_behind (zx := zx) (zy := zy) sp hz nz nu nq huq
  have Squ := side_behind (zx := zx) (zy := zy) sp hz nz nq nu hqu
  have Svq := side_behind (zx := zx) (zy := zy) sp hz nz nv nq hvq
  have Sqv := side_behind (zx := zx) (zy := zy) sp hz nz nq nv hqv
  clear hz hZ nz vert hzx hzy
  revert X Y Vu Vv Vq Suv Svu Suq Squ Svq Sqv
  generalize zx * uy - zy * ux = x1
  generalize zx * vy - zy * vx = x2
  generalize zx * qy - zy * qx = x3
  generalize (n1 * ux + n2 * uy) * s - (n1 * zx + n2 * zy) = y1
  generalize (n1 * vx + n2 * vy) * s - (n1 * zx + n2 * zy) = y2
  generalize (n1 * qx + n2 * qy) * s - (n1 * zx + n2 * zy) = y3
  intro X Y Vu Vv Vq Suv Svu Suq Squ Svq Sqv
  have neg : ∀ p q t u : Int, -p * t - -q * u = q * u - p * t := fun p q t u => by grind
  have nX : ∀ p q t : Int, a * p + b * q + c * t = 0 → a * -p + b * -q + c * -t = 0 := fun p q t h => by simp only [Int.mul_neg]; omega
  have s1 : 0 < b + a + c := by omega
  have s2 : 0 < c + a + b := by omega
  have X1 : b * x2 + a * x1 + c * x3 = 0 := by omega
  have Y1 : b * y2 + a * y1 + c * y3 = 0 := by omega
  have X2 : c * x3 + a * x1 + b * x2 = 0 := by omega
  have Y2 : c * y3 + a * y1 + b * y2 = 0 := by omega
  rcases Int.le_total 0 x1 with g1 | g1 <;> rcases Int.le_total 0 x2 with g2 | g2 <;> rcases Int.le_total 0 x3 with g3 | g3
  · exact same_three a0 b0 c0 s0 X Y g1 g2 g3 Vu Vv Vq
  · exact core_three (x1 := -x3) (x2 := -x1) (x3 := -x2) c0 a0 b0 s2 (by simp only [Int.mul_neg]; omega) Y2 (by omega) (by omega) (by omega) (fun h => Vq (by omega)) (fun h => Vu (by omega)) (fun h => Vv (by omega))
      (fun h => by rw [neg]; exact Suq g1 g3 (by omega)) (fun h => by rw [neg]; exact Svq g2 g3 (by omega))
  · exact core_three (x1 := -x2) (x2 := -x1) (x3 := -x3) b0 a0 c0 s1 (by simp only [Int.mul_neg]; omega) Y1 (by omega) (by omega) (by omega) (fun h => Vv (by omega)) (fun h => Vu (by omega)) (fun h => Vq (by omega))
      (fun h => by rw [neg]; exact Suv g1 g2 (by omega)) (fun h => by rw [neg]; exact Sqv g3 g2 (by omega))
  · exact core_three a0 b0 c0 s0 X Y g1 g2 g3 Vu Vv Vq (fun h => Suv g1 g2 h) (fun h => Suq g1 g3 h)
  · exact core_three (x1 := -x1) (x2 := -x2) (x3 := -x3) a0 b0 c0 s0 (by simp only [Int.mul_neg]; omega) Y (by omega) (by omega) (by omega) (fun h => Vu (by omega)) (fun h => Vv (by omega)) (fun h => Vq (by omega))
      (fun h => by rw [neg]; exact Svu g2 g1 (by omega)) (fun h => by rw [neg]; exact Squ g3 g1 (by omega))
  · exact core_three b0 a0 c0 s1 X1 Y1 g2 g1 g3 Vv Vu Vq (fun h => Svu g2 g1 h) (fun h => Svq g2 g3 h)
  · exact core_three c0 a0 b0 s2 X2 Y2 g3 g1 g2 Vq Vu Vv (fun h => Squ g3 g1 h) (fun h => Sqv g3 g2 h)
  · exact same_three (x1 := -x1) (x2 := -x2) (x3 := -x3) a0 b0 c0 s0 (by simp only [Int.mul_neg]; omega) Y (by omega) (by omega) (by omega) (fun h => Vu (by omega)) (fun h => Vv (by omega)) (fun h => Vq (by omega))

/-- places on one side of the origin, no two of which have a segment within r -/
def Apart (n1 n2 r : Int) (S : Int → Int → Prop) : Prop := (∀ x y, S x y → 0 < n1 * x + n2 * y) ∧ ∀ x y u v, S x y → S u v → comesB x y u v r = false
/-- the places between two of them -/
def Amid (S : Int → Int → Prop) (x y : Int) : Prop := ∃ ux uy vx vy l m : Int, S ux uy ∧ S vx vy ∧ 0 ≤ l ∧ 0 ≤ m ∧ 0 < l + m ∧ (l + m) * x = l * ux + m * vx ∧ (l + m) * y = l * uy + m * vy

theorem mid_far {n1 n2 r ux uy vx vy qx qy l m x y : Int} (nu : 0 < n1 * ux + n2 * uy) (nv : 0 < n1 * vx + n2 * vy) (nq : 0 < n1 * qx + n2 * qy)
    (huv : comesB ux uy vx vy r = false) (huq : comesB ux uy qx qy r = false) (hvq : comesB vx vy qx qy r = false) (l0 : 0 ≤ l) (m0 : 0 ≤ m) (lm : 0 < l + m)
    (hx : (l + m) * x = l * ux + m * vx) (hy : (l + m) * y = l * uy + m * vy) : comesB x y qx qy r = false := by
  cases hc : comesB x y qx qy r with
  | false => rfl
  | true =>
    exfalso
    obtain ⟨k, d, d0, k0, k1, h⟩ := point_of_comes hc
    have j0 : 0 ≤ d - k := by omega
    have hs : (d - k) * l + (d - k) * m + k * (l + m) = (l + m) * d := by grind
    have ht := tri_far (a := (d - k) * l) (b := (d - k) * m) (c := k * (l + m)) nu nv nq huv huq hvq (Int.mul_nonneg j0 l0) (Int.mul_nonneg j0 m0) (Int.mul_nonneg k0 (by omega)) (by rw [hs]; exact Int.mul_pos lm d0)
    have ex : (d - k) * l * ux + (d - k) * m * vx + k * (l + m) * qx = (l + m) * ((d - k) * x + k * qx) := by
      have : (d - k) * ((l + m) * x) = (d - k) * (l * ux + m * vx) := by rw [hx]
      grind
    have ey : (d - k) * l * uy + (d - k) * m * vy + k * (l + m) * qy = (l + m) * ((d - k) * y + k * qy) := by
      have : (d - k) * ((l + m) * y) = (d - k) * (l * uy + m * vy) := by rw [hy]
      grind
    rw [hs, ex, ey] at ht
    have h2 := Int.mul_le_mul_of_nonneg_left h (mul_self_nonneg (l + m))
    have e1 : sqV ((l + m) * ((d - k) * x + k * qx)) ((l + m) * ((d - k) * y + k * qy)) = (l + m) * (l + m) * sqV ((d - k) * x + k * qx) ((d - k) * y + k * qy) := by unfold sqV; grind
    have e2 : (l + m) * (l + m) * (r * r * (d * d)) = r * r * ((l + m) * d * ((l + m) * d)) := by grind
    omega

theorem Apart.amid {n1 n2 r : Int} {S : Int → Int → Prop} (h : Apart n1 n2 r S) : Apart n1 n2 r (Amid S) := by
  obtain ⟨h1, h2⟩ := h
  have pos : ∀ x y, Amid S x y → 0 < n1 * x + n2 * y := fun x y ⟨ux, uy, vx, vy, l, m, su, sv, l0, m0, lm, hx, hy⟩ => by
    have e : (l + m) * (n1 * x + n2 * y) = l * (n1 * ux + n2 * uy) + m * (n1 * vx + n2 * vy) := by
      have : (l + m) * (n1 * x + n2 * y) = n1 * ((l + m) * x) + n2 * ((l + m) * y) := by grind
      rw [this, hx, hy]; grind
    have p1 := Int.mul_nonneg l0 (Int.le_of_lt (h1 _ _ su))
    have p2 := Int.mul_nonneg m0 (Int.le_of_lt (h1 _ _ sv))
    refine Int.not_le.1 fun hc => ?_
    have := Int.mul_nonpos_of_nonneg_of_nonpos (show 0 ≤ l + m by omega) hc
    have g : ∀ t x : Int, 0 < x → t * x = 0 → t = 0 := fun t x hx h => by
      rcases Int.mul_eq_zero.1 h with h | h <;> omega
    have := g l _ (h1 _ _ su) (by omega)
    have := g m _ (h1 _ _ sv) (by omega)
    omega
  have one : ∀ x y u v, Amid S x y → S u v → comesB x y u v r = false := fun x y u v ⟨ux, uy, vx, vy, l, m, su, sv, l0, m0, lm, hx, hy⟩ hq =>
    mid_far (h1 _ _ su) (h1 _ _ sv) (h1 _ _ hq) (h2 _ _ _ _ su sv) (h2 _ _ _ _ su hq) (h2 _ _ _ _ sv hq) l0 m0 lm hx hy
  refine ⟨pos, fun x y u v hxy ⟨ux, uy, vx, vy, l, m, su, sv, l0, m0, lm, hx, hy⟩ => ?_⟩
  rw [← comes_swap]
  exact mid_far (h1 _ _ su) (h1 _ _ sv) (pos _ _ hxy) (h2 _ _ _ _ su sv) ((comes_swap x y ux uy r).trans (one _ _ _ _ hxy su)) ((comes_swap x y vx vy r).trans (one _ _ _ _ hxy sv)) l0 m0 lm hx hy

/-- a place of a rectangle lies between places between its corners -/
theorem amid_rect {S : Int → Int → Prop} {x0 x1 y0 y1 x y : Int} (s00 : S x0 y0) (s01 : S x0 y1) (s10 : S x1 y0) (s11 : S x1 y1) (hx0 : x0 ≤ x) (hx1 : x ≤ x1) (hy0 : y0 ≤ y) (hy1 : y ≤ y1) : Amid (Amid S) x y := by
  have row : ∀ t, S x0 t → S x1 t → Amid S x t := fun t h0 h1 => by
    by_cases h : x0 = x1
    · exact ⟨x0, t, x1, t, 1, 0, h0, h1, by omega, by omega, by omega, by omega, by omega⟩
    · exact ⟨x0, t, x1, t, x1 - x, x - x0, h0, h1, by omega, by omega, by omega, by grind, by grind⟩
  by_cases h : y0 = y1
  · exact ⟨x, y0, x, y1, 1, 0, row _ s00 s10, row _ s01 s11, by omega, by omega, by omega, by omega, by omega⟩
  · exact ⟨x, y0, x, y1, y1 - y, y - y0, row _ s00 s10, row _ s01 s11, by omega, by omega, by omega, by grind, by grind⟩

/-- of places on one side of the origin, one is the first -/
theorem first_of {n1 n2 : Int} : ∀ (l : List (Int × Int)), l ≠ [] → (∀ q ∈ l, 0 < n1 * q.1 + n2 * q.2) → ∃ p ∈ l, ∀ q ∈ l, 0 ≤ p.1 * q.2 - p.2 * q.1
  | [a], _, _ => ⟨a, by simp, fun q hq => by
      obtain rfl : q = a := by simpa using hq
      have : q.1 * q.2 - q.2 * q.1 = 0 := by grind
      omega⟩
  | a :: b :: l, _, h => by
    obtain ⟨p, hp, hq⟩ := first_of (b :: l) (by simp) (fun q hq => h q (by simp [hq]))
    by_cases hc : 0 ≤ a.1 * p.2 - a.2 * p.1
    · refine ⟨a, by simp, fun q hq' => ?_⟩
      rcases List.mem_cons.1 hq' with rfl | hq'
      · have : q.1 * q.2 - q.2 * q.1 = 0 := by grind
        omega
      · have na := h a (by simp)
        have np := h p (by simp [hp])
        have nq := h q (by simp [hq'])
        have e : (n1 * p.1 + n2 * p.2) * (a.1 * q.2 - a.2 * q.1) = (n1 * a.1 + n2 * a.2) * (p.1 * q.2 - p.2 * q.1) + (n1 * q.1 + n2 * q.2) * (a.1 * p.2 - a.2 * p.1) := by grind
        have m1 := Int.mul_nonneg (Int.le_of_lt na) (hq q hq')
        have m2 := Int.mul_nonneg (Int.le_of_lt nq) hc
        refine le_of_mul_le np ?_
        rw [e]; omega
    · refine ⟨p, by simp [hp], fun q hq' => ?_⟩
      rcases List.mem_cons.1 hq' with rfl | hq'
      · have : p.1 * q.2 - p.2 * q.1 = -(q.1 * p.2 - q.2 * p.1) := by grind
        omega
      · exact hq q hq'

theorem sgn_neg (x : Int) : sgnI x < 0 ↔ x < 0 := by unfold sgnI; split <;> (try split) <;> omega
theorem firstB_iff (p : Int × Int) (a b : Ar) : firstB p a b = true ↔ ∀ q ∈ cornersL [a, b], 0 ≤ p.1 * q.2 - p.2 * q.1 := by
  unfold firstB
  rw [List.all_eq_true]
  refine ⟨fun h q hq => ?_, fun h q hq => ?_⟩
  · have := h q hq
    rw [crossV_eq] at this
    simp only [Bool.not_eq_true', decide_eq_false_iff_not, sgn_neg] at this
    omega
  · rw [crossV_eq]
    simp only [Bool.not_eq_true', decide_eq_false_iff_not, sgn_neg]
    have := h q hq
    omega
theorem clearB_iff (a b : Ar) (r : Int) : clearB a b r = true ↔ rightB a b r = true ∧ (∀ p ∈ cornersL [a, b], ∀ q ∈ cornersL [a, b], comesB p.1 p.2 q.1 q.2 r = false) ∧ ∃ p ∈ cornersL [a, b], ∀ q ∈ cornersL [a, b], 0 ≤ p.1 * q.2 - p.2 * q.1 := by
  unfold clearB
  rw [Bool.and_eq_true, Bool.and_eq_true]
  refine and_congr_right fun _ => and_congr ?_ ?_
  · unfold apartB
    simp only [List.all_eq_true, Bool.not_eq_true']
  · unfold amidB
    rw [Bool.not_eq_true', List.all_eq_false]
    simp only [Bool.not_eq_true, Bool.not_eq_false', firstB_iff]

/-- the corners of areas that are surely clear -/
theorem clear_apart {a b : Ar} {r : Int} (h : clearB a b r = true) : ∃ n1 n2, Apart n1 n2 r (fun x y => (x, y) ∈ cornersL [a, b]) := by
  obtain ⟨hr, hap, p, hp, hf⟩ := (clearB_iff a b r).1 h
  obtain ⟨ha, hb, r0, r1⟩ := right_ok hr
  have hfar := farV_corners (l := [a, b]) (by simp [ha, hb])
  obtain ⟨⟨p0, p1⟩, p2, p3⟩ := (farV_iff p).1 (hfar p hp)
  refine ⟨p.1 - 1000000000000000000 * p.2, p.2 + 1000000000000000000 * p.1, fun x y hq => ?_, fun x y u v hx hu => hap _ hx _ hu⟩
  obtain ⟨⟨q0, q1⟩, q2, q3⟩ := (farV_iff (x, y)).1 (hfar _ hq)
  simp only at q0 q1 q2 q3
  have hX : 0 ≤ p.1 * y - p.2 * x := hf _ hq
  have hc : comesB p.1 p.2 x y r = false := hap _ hp _ hq
  have e : (p.1 - 1000000000000000000 * p.2) * x + (p.2 + 1000000000000000000 * p.1) * y = 1000000000000000000 * (p.1 * y - p.2 * x) + (p.1 * x + p.2 * y) := by grind
  have m1 := mul_bd (x := p.1) (y := x) (B := 268435456) (C := 268435456) p0 p1 q0 q1
  have m2 := mul_bd (x := p.2) (y := y) (B := 268435456) (C := 268435456) p2 p3 q2 q3
  rw [e]
  by_cases h0 : p.1 * y - p.2 * x = 0
  · rw [h0]
    refine Int.not_le.1 fun hd => ?_
    obtain ⟨A, hA⟩ : ∃ A, p.1 * p.1 + p.2 * p.2 = A := ⟨_, rfl⟩
    have hA0 : 0 ≤ A := by have := mul_self_nonneg p.1; have := mul_self_nonneg p.2; omega
    by_cases hz : A = 0
    · rw [comes_p (by unfold sqV; rw [hA, hz]; exact mul_self_nonneg r)] at hc
      exact absurd hc (by simp)
    · obtain ⟨D, hD⟩ : ∃ D, p.1 * x + p.2 * y = D := ⟨_, rfl⟩
      have z1 : (A - D - A) * p.1 + A * x = 0 := by
        have : (A - D - A) * p.1 + A * x = -(p.2 * (p.1 * y - p.2 * x)) := by rw [← hA, ← hD]; grind
        rw [this, h0]; omega
      have z2 : (A - D - A) * p.2 + A * y = 0 := by
        have : (A - D - A) * p.2 + A * y = p.1 * (p.1 * y - p.2 * x) := by rw [← hA, ← hD]; grind
        rw [this, h0]; omega
      rw [comes_of_point (k := A) (d := A - D) (by omega) hA0 (by omega) (by rw [z1, z2]; exact Int.mul_nonneg (mul_self_nonneg r) (mul_self_nonneg _))] at hc
      exact absurd hc (by simp)
  · have : 1 ≤ p.1 * y - p.2 * x := by omega
    omega

def validA (a : Ar) : Prop := (-268435456 ≤ a.1 ∧ a.1 ≤ a.2.1 ∧ a.2.1 ≤ 268435456) ∧ (-268435456 ≤ a.2.2.1 ∧ a.2.2.1 ≤ a.2.2.2 ∧ a.2.2.2 ≤ 268435456)
theorem rightB_iff (a b : Ar) (r : Int) : rightB a b r = true ↔ validA a ∧ validA b ∧ 0 ≤ r ∧ r ≤ 268435456 := by
  have g : ∀ c : Ar, areaE c.1 c.2.1 c.2.2.1 c.2.2.2 = 0 ↔ validA c := fun c => by
    constructor
    · intro hc
      unfold areaE at hc
      split at hc
      · rename_i hv
        obtain ⟨v1, v2⟩ := valid_zero hv
        have := check_zero v1
        have := check_zero v2
        split at hc
        · rename_i hf
          obtain ⟨f1, f2, f3, f4⟩ := okA_iff (a := c) hf
          exact ⟨by omega, by omega⟩
        · omega
      · exact absurd hc (by assumption)
    · intro ⟨h1, h2⟩
      unfold areaE validE
      rw [if_pos (show (if checkE c.1 c.2.1 = 0 then checkE c.2.2.1 c.2.2.2 else checkE c.1 c.2.1) = 0 by rw [if_pos (check_ok (by omega) h1.2.1 (by omega))]; exact check_ok (by omega) h2.2.1 (by omega)), if_pos]
      unfold farA
      simp only [Bool.and_eq_true, far_iff]
      omega
  unfold rightB
  simp only [Bool.and_eq_true, beq_iff_eq, g, withinB, decide_eq_true_eq]
  exact ⟨fun ⟨⟨h1, h2⟩, h3⟩ => ⟨h1, h2, h3⟩, fun ⟨h1, h2, h3⟩ => ⟨⟨h1, h2⟩, h3⟩⟩

def inA (a : Ar) (x y : Int) : Prop := (a.1 ≤ x ∧ x ≤ a.2.1) ∧ (a.2.2.1 ≤ y ∧ y ≤ a.2.2.2)
theorem mem_corners {a b : Ar} {q : Int × Int} : q ∈ cornersL [a, b] ↔ q ∈ fourA a ∨ q ∈ fourA b := by simp [cornersL]
theorem four_in {a : Ar} (h : validA a) {q : Int × Int} (hq : q ∈ fourA a) : inA a q.1 q.2 := by
  obtain ⟨⟨h1, h2, h3⟩, h4, h5, h6⟩ := h
  obtain ⟨e1, e2⟩ := mem_four hq
  refine ⟨?_, ?_⟩
  · rcases e1 with e | e <;> rw [e] <;> omega
  · rcases e2 with e | e <;> rw [e] <;> omega
def subA (c a : Ar) : Prop := a.1 ≤ c.1 ∧ c.2.1 ≤ a.2.1 ∧ a.2.2.1 ≤ c.2.2.1 ∧ c.2.2.2 ≤ a.2.2.2
theorem inA.sub {c a : Ar} (hs : subA c a) {x y : Int} (h : inA c x y) : inA a x y := by
  obtain ⟨h1, h2, h3, h4⟩ := hs
  obtain ⟨g1, g2⟩ := h
  exact ⟨by omega, by omega⟩

/-- WHAT IS SURELY CLEAR: no two places, and all that lies inside is surely clear, too -/
theorem clear_all {a b : Ar} {r : Int} (h : clearB a b r = true) : ∃ n1 n2, Apart n1 n2 r (fun x y => inA a x y ∨ inA b x y) := by
  obtain ⟨n1, n2, hap⟩ := clear_apart h
  have hap2 := hap.amid.amid
  have sub : ∀ x y, (inA a x y ∨ inA b x y) → Amid (Amid (fun x y => (x, y) ∈ cornersL [a, b])) x y := fun x y hxy => by
    rcases hxy with ⟨h1, h2⟩ | ⟨h1, h2⟩
    · exact amid_rect (x0 := a.1) (x1 := a.2.1) (y0 := a.2.2.1) (y1 := a.2.2.2) (mem_corners.2 (.inl (by simp [fourA, four]))) (mem_corners.2 (.inl (by simp [fourA, four]))) (mem_corners.2 (.inl (by simp [fourA, four]))) (mem_corners.2 (.inl (by simp [fourA, four]))) h1.1 h1.2 h2.1 h2.2
    · exact amid_rect (x0 := b.1) (x1 := b.2.1) (y0 := b.2.2.1) (y1 := b.2.2.2) (mem_corners.2 (.inr (by simp [fourA, four]))) (mem_corners.2 (.inr (by simp [fourA, four]))) (mem_corners.2 (.inr (by simp [fourA, four]))) (mem_corners.2 (.inr (by simp [fourA, four]))) h1.1 h1.2 h2.1 h2.2
  exact ⟨n1, n2, fun x y hx => hap2.1 _ _ (sub _ _ hx), fun x y u v hx hu => hap2.2 _ _ _ _ (sub _ _ hx) (sub _ _ hu)⟩

theorem clear_mk {c d : Ar} {r n1 n2 : Int} {S : Int → Int → Prop} (h : Apart n1 n2 r S) (hr : rightB c d r = true) (hc : ∀ q ∈ cornersL [c, d], S q.1 q.2) : clearB c d r = true := by
  refine (clearB_iff c d r).2 ⟨hr, fun p hp q hq => h.2 _ _ _ _ (hc p hp) (hc q hq), first_of (n1 := n1) (n2 := n2) _ (by simp [cornersL, fourA, four]) fun q hq => h.1 _ _ (hc q hq)⟩

theorem clear_inside {a b c d : Ar} {r : Int} (h : clearB a b r = true) (hc : validA c) (hd : validA d) (sc : subA c a) (sd : subA d b) : clearB c d r = true := by
  obtain ⟨n1, n2, hap⟩ := clear_all h
  have hr := (rightB_iff a b r).1 ((clearB_iff a b r).1 h).1
  exact clear_mk hap ((rightB_iff c d r).2 ⟨hc, hd, hr.2.2⟩) fun q hq => by
    rcases mem_corners.1 hq with hq | hq
    · exact .inl ((four_in hc hq).sub sc)
    · exact .inr ((four_in hd hq).sub sd)
theorem clear_none {a b : Ar} {r : Int} (h : clearB a b r = true) {px py qx qy : Int} (hp : inA a px py) (hq : inA b qx qy) : comesB px py qx qy r = false := by
  obtain ⟨n1, n2, hap⟩ := clear_all h
  exact hap.2 _ _ _ _ (.inl hp) (.inr hq)
theorem clear_turn (a b : Ar) (r : Int) : clearB a b r = clearB b a r := by
  have g : ∀ a b : Ar, clearB a b r = true → clearB b a r = true := fun a b h => by
    obtain ⟨hr, hap, p, hp, hf⟩ := (clearB_iff a b r).1 h
    have e : ∀ q, q ∈ cornersL [b, a] ↔ q ∈ cornersL [a, b] := fun q => by rw [mem_corners, mem_corners]; exact or_comm
    refine (clearB_iff b a r).2 ⟨?_, fun p hp q hq => hap p ((e p).1 hp) q ((e q).1 hq), p, (e p).2 hp, fun q hq => hf q ((e q).1 hq)⟩
    rw [rightB_iff] at hr ⊢
    exact ⟨hr.2.1, hr.1, hr.2.2⟩
  rw [Bool.eq_iff_iff]
  exact ⟨g a b, g b a⟩

/-- the places of two areas of one place each -/
theorem clear_sole {px py qx qy r : Int} (hp : (-268435456 ≤ px ∧ px ≤ 268435456) ∧ -268435456 ≤ py ∧ py ≤ 268435456) (hq : (-268435456 ≤ qx ∧ qx ≤ 268435456) ∧ -268435456 ≤ qy ∧ qy ≤ 268435456) (r0 : 0 ≤ r) (r1 : r ≤ 268435456) :
    clearB (px, px, py, py) (qx, qx, qy, qy) r = !comesB px py qx qy r := by
  have hr : rightB (px, px, py, py) (qx, qx, qy, qy) r = true := (rightB_iff _ _ _).2 ⟨⟨by simp; omega, by simp; omega⟩, ⟨by simp; omega, by simp; omega⟩, r0, r1⟩
  have mem : ∀ q : Int × Int, q ∈ cornersL [(px, px, py, py), (qx, qx, qy, qy)] ↔ q = (px, py) ∨ q = (qx, qy) := fun q => by simp [cornersL, fourA, four]
  cases hc : comesB px py qx qy r with
  | true =>
    rw [Bool.not_true, Bool.eq_false_iff]
    intro h
    have := ((clearB_iff _ _ _).1 h).2.1 (px, py) ((mem _).2 (.inl rfl)) (qx, qy) ((mem _).2 (.inr rfl))
    simp only [hc] at this
    exact absurd this (by simp)
  | false =>
    have fp : ∀ x y, comesB px py x y r = true ∨ r * r < sqV px py := fun x y => by
      by_cases h : sqV px py ≤ r * r
      · exact .inl (comes_p h)
      · exact .inr (by omega)
    have np : r * r < sqV px py := by
      rcases fp qx qy with h | h
      · rw [hc] at h; exact absurd h (by simp)
      · exact h
    have nq : r * r < sqV qx qy := by
      by_cases h : sqV qx qy ≤ r * r
      · rw [comes_q h] at hc; exact absurd hc (by simp)
      · omega
    have self : ∀ x y : Int, r * r < sqV x y → comesB x y x y r = false := fun x y h => by
      unfold comesB
      simp only [Int.sub_self, Int.mul_zero, Int.add_zero, Int.le_refl, if_true, decide_eq_false_iff_not]
      omega
    refine (clearB_iff _ _ _).2 ⟨hr, fun p hp' q hq' => ?_, ?_⟩
    · rcases (mem p).1 hp' with rfl | rfl <;> rcases (mem q).1 hq' with rfl | rfl
      · exact self _ _ np
      · exact hc
      · exact (comes_swap _ _ _ _ _).trans hc
      · exact self _ _ nq
    · have z : ∀ x y : Int, x * y - y * x = 0 := fun x y => by grind
      by_cases h : 0 ≤ px * qy - py * qx
      · refine ⟨(px, py), (mem _).2 (.inl rfl), fun q hq' => ?_⟩
        rcases (mem q).1 hq' with rfl | rfl
        · simp only; rw [z]; omega
        · exact h
      · refine ⟨(qx, qy), (mem _).2 (.inr rfl), fun q hq' => ?_⟩
        rcases (mem q).1 hq' with rfl | rfl
        · simp only
          have : qx * py - qy * px = -(px * qy - py * qx) := by grind
          omega
        · simp only; rw [z]; omega

/-! What surely hits. -/
theorem sq_most {u0 u1 v0 v1 u v M : Int} (h0 : u0 ≤ u) (h1 : u ≤ u1) (g0 : v0 ≤ v) (g1 : v ≤ v1) (c1 : u0 * u0 + v0 * v0 ≤ M) (c2 : u0 * u0 + v1 * v1 ≤ M) (c3 : u1 * u1 + v0 * v0 ≤ M) (c4 : u1 * u1 + v1 * v1 ≤ M) : u * u + v * v ≤ M := by
  have k : ∀ a b x : Int, a ≤ x → x ≤ b → x * x ≤ a * a ∨ x * x ≤ b * b := fun a b x ha hb => by
    rcases Int.le_total 0 x with h | h
    · exact .inr (Int.mul_le_mul hb hb h (by omega))
    · left
      have := Int.mul_le_mul (show -x ≤ -a by omega) (show -x ≤ -a by omega) (by omega) (by omega)
      have e : ∀ t : Int, -t * -t = t * t := fun t => by grind
      rw [e, e] at this
      exact this
  rcases k u0 u1 u h0 h1 with h | h <;> rcases k v0 v1 v g0 g1 with g | g <;> omega
theorem allB_iff (a : Ar) (r : Int) : allB a r = true ↔ ∀ q ∈ fourA a, q.1 * q.1 + q.2 * q.2 ≤ 8 * r * (8 * r) := by
  unfold allB
  simp only [cornersL, List.flatMap_cons, List.flatMap_nil, List.append_nil, List.all_eq_true, Bool.not_eq_true', decide_eq_false_iff_not, Int.not_lt]
theorem all_point {a : Ar} {r : Int} (h : allB a r = true) {x y : Int} (hi : inA a x y) : x * x + y * y ≤ 8 * r * (8 * r) := by
  rw [allB_iff] at h
  exact sq_most hi.1.1 hi.1.2 hi.2.1 hi.2.2 (h (a.1, a.2.2.1) (by simp [fourA, four])) (h (a.1, a.2.2.2) (by simp [fourA, four])) (h (a.2.1, a.2.2.1) (by simp [fourA, four])) (h (a.2.1, a.2.2.2) (by simp [fourA, four]))
theorem blend_mono {x y u v i : Int} (i0 : 0 ≤ i) (i1 : i ≤ 8) (h1 : x ≤ u) (h2 : y ≤ v) : (8 - i) * x + i * y ≤ (8 - i) * u + i * v := by
  have := Int.mul_le_mul_of_nonneg_left h1 (show 0 ≤ 8 - i by omega)
  have := Int.mul_le_mul_of_nonneg_left h2 i0
  omega
theorem blend_sub {a b c d : Ar} {i : Int} (i0 : 0 ≤ i) (i1 : i ≤ 8) (sc : subA c a) (sd : subA d b) : subA (blendA c d i) (blendA a b i) := by
  obtain ⟨a1, a2, a3, a4⟩ := sc
  obtain ⟨b1, b2, b3, b4⟩ := sd
  exact ⟨blend_mono i0 i1 a1 b1, blend_mono i0 i1 a2 b2, blend_mono i0 i1 a3 b3, blend_mono i0 i1 a4 b4⟩
theorem blend_in {a b : Ar} {i px py qx qy : Int} (i0 : 0 ≤ i) (i1 : i ≤ 8) (hp : inA a px py) (hq : inA b qx qy) : inA (blendA a b i) ((8 - i) * px + i * qx) ((8 - i) * py + i * qy) :=
  ⟨⟨blend_mono i0 i1 hp.1.1 hq.1.1, blend_mono i0 i1 hp.1.2 hq.1.2⟩, ⟨blend_mono i0 i1 hp.2.1 hq.2.1, blend_mono i0 i1 hp.2.2 hq.2.2⟩⟩
theorem part_iff (a b : Ar) (r : Int) : partB a b r = true ↔ ∃ i : Nat, i ≤ 8 ∧ allB (blendA a b (i : Int)) r = true := by
  unfold partB
  rw [List.any_eq_true]
  constructor
  · rintro ⟨i, hi, h⟩; exact ⟨i, by have := List.mem_range.1 hi; omega, h⟩
  · rintro ⟨i, hi, h⟩; exact ⟨i, List.mem_range.2 (by omega), h⟩
theorem alone_iff (a : Ar) : aloneB a = true ↔ a.1 = a.2.1 ∧ a.2.2.1 = a.2.2.2 := by simp [aloneB]

theorem part_comes {a b : Ar} {r : Int} (h : partB a b r = true) {px py qx qy : Int} (hp : inA a px py) (hq : inA b qx qy) : comesB px py qx qy r = true := by
  obtain ⟨i, hi, h⟩ := (part_iff a b r).1 h
  have := all_point h (blend_in (i := (i : Int)) (by omega) (by omega) hp hq)
  exact comes_of_point (k := (i : Int)) (d := 8) (by omega) (by omega) (by omega) (by
    unfold sqV
    have e : r * r * (8 * 8) = 8 * r * (8 * r) := by grind
    rw [e]; exact this)
theorem alone_at {a : Ar} (h : aloneB a = true) {x y : Int} (hi : inA a x y) : x = a.1 ∧ y = a.2.2.1 := by
  obtain ⟨h1, h2⟩ := (alone_iff a).1 h
  obtain ⟨g1, g2⟩ := hi
  exact ⟨by omega, by omega⟩
theorem hits_all {a b : Ar} {r : Int} (h : hitsB a b r = true) {px py qx qy : Int} (hp : inA a px py) (hq : inA b qx qy) : comesB px py qx qy r = true := by
  unfold hitsB at h
  simp only [Bool.and_eq_true, Bool.or_eq_true] at h
  rcases h.2 with h | ⟨⟨h1, h2⟩, h⟩
  · exact part_comes h hp hq
  · obtain ⟨rfl, rfl⟩ := alone_at h1 hp
    obtain ⟨rfl, rfl⟩ := alone_at h2 hq
    exact h
theorem hits_inside {a b c d : Ar} {r : Int} (h : hitsB a b r = true) (hc : validA c) (hd : validA d) (sc : subA c a) (sd : subA d b) : hitsB c d r = true := by
  unfold hitsB at h ⊢
  simp only [Bool.and_eq_true, Bool.or_eq_true] at h ⊢
  obtain ⟨hr, h⟩ := h
  refine ⟨(rightB_iff c d r).2 ⟨hc, hd, ((rightB_iff a b r).1 hr).2.2⟩, ?_⟩
  rcases h with h | ⟨⟨h1, h2⟩, h⟩
  · left
    obtain ⟨i, hi, h⟩ := (part_iff a b r).1 h
    refine (part_iff c d r).2 ⟨i, hi, (allB_iff _ _).2 fun q hq => all_point h ?_⟩
    obtain ⟨⟨c0, c1, c2⟩, c3, c4, c5⟩ := hc
    obtain ⟨⟨d0, d1, d2⟩, d3, d4, d5⟩ := hd
    have hb := blend_sub (i := (i : Int)) (by omega) (by omega) sc sd
    have k1 : (blendA c d (i : Int)).1 ≤ (blendA c d (i : Int)).2.1 := blend_mono (by omega) (by omega) c1 d1
    have k2 : (blendA c d (i : Int)).2.2.1 ≤ (blendA c d (i : Int)).2.2.2 := blend_mono (by omega) (by omega) c4 d4
    refine inA.sub hb ?_
    obtain ⟨e1, e2⟩ := mem_four hq
    refine ⟨?_, ?_⟩
    · rcases e1 with e | e <;> rw [e] <;> omega
    · rcases e2 with e | e <;> rw [e] <;> omega
  · right
    have i1 : inA c c.1 c.2.2.1 := ⟨⟨by omega, hc.1.2.1⟩, by omega, hc.2.2.1⟩
    have i2 : inA c c.2.1 c.2.2.2 := ⟨⟨hc.1.2.1, by omega⟩, hc.2.2.1, by omega⟩
    have j1 : inA d d.1 d.2.2.1 := ⟨⟨by omega, hd.1.2.1⟩, by omega, hd.2.2.1⟩
    have j2 : inA d d.2.1 d.2.2.2 := ⟨⟨hd.1.2.1, by omega⟩, hd.2.2.1, by omega⟩
    have e1 := alone_at h1 (i1.sub sc)
    have e2 := alone_at h1 (i2.sub sc)
    have f1 := alone_at h2 (j1.sub sd)
    have f2 := alone_at h2 (j2.sub sd)
    refine ⟨⟨(alone_iff c).2 ⟨by omega, by omega⟩, (alone_iff d).2 ⟨by omega, by omega⟩⟩, ?_⟩
    rw [e1.1, e1.2, f1.1, f1.2]
    exact h
theorem hits_sole {px py qx qy r : Int} (hp : (-268435456 ≤ px ∧ px ≤ 268435456) ∧ -268435456 ≤ py ∧ py ≤ 268435456) (hq : (-268435456 ≤ qx ∧ qx ≤ 268435456) ∧ -268435456 ≤ qy ∧ qy ≤ 268435456) (r0 : 0 ≤ r) (r1 : r ≤ 268435456) :
    hitsB (px, px, py, py) (qx, qx, qy, qy) r = comesB px py qx qy r := by
  have hr : rightB (px, px, py, py) (qx, qx, qy, qy) r = true := (rightB_iff _ _ _).2 ⟨⟨by simp; omega, by simp; omega⟩, ⟨by simp; omega, by simp; omega⟩, r0, r1⟩
  rw [Bool.eq_iff_iff]
  constructor
  · intro h
    exact hits_all h ⟨by simp, by simp⟩ ⟨by simp, by simp⟩
  · intro h
    unfold hitsB
    rw [hr, h]
    simp [aloneB]
theorem not_both {a b : Ar} {r : Int} (h : hitsB a b r = true) (g : clearB a b r = true) : False := by
  obtain ⟨ha, hb, _⟩ := (rightB_iff a b r).1 ((clearB_iff a b r).1 g).1
  have i1 : inA a a.1 a.2.2.1 := ⟨⟨by omega, ha.1.2.1⟩, by omega, ha.2.2.1⟩
  have j1 : inA b b.1 b.2.2.1 := ⟨⟨by omega, hb.1.2.1⟩, by omega, hb.2.2.1⟩
  have h1 := hits_all h i1 j1
  rw [clear_none g i1 j1] at h1
  exact absurd h1 (by simp)
end Go.Proofs.Ytfpdnmfklmgmfaa
