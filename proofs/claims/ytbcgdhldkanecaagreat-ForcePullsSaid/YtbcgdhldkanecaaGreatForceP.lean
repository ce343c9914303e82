/- Several texts in one. -/
import Derived.Test.YtbcgdhldkanecaaGreatRoot
import Derived.Deep.DeepCutAuto
import Derived.Laws.Bits64b
import Derived.Test.YtbcgdhldkanecaaGreatSkyP
/- Places: are their numbers in range, lengths, crosses and dots. -/
namespace Go.Proofs.YtbcgdhldkanecaaGreat
set_option linter.unusedVariables false
set_option linter.unusedSimpArgs false
open Go.RowKit

def farB (n : Int) : Bool := withinB n (-268435456) 268435456
theorem far_list (s : Nat) (l : List Int) (w : World) (hs : s < w.heap.size) (hn : l.length ≤ 16) (hc : ∀ k, (h : k < l.length) → w.cell? ⟨s, k, none⟩ = some (.int .i64 l[k])) :
    Gives Tryz.prog 99 #[.slice (some ⟨s, 0, none⟩) l.length l.length] w (.bool (l.all farB)) := by
  have HC := hide hc
  clear hc
  (unfold Gives; go_enter Tryz.func99, Tryz.ntmps99)
  go_wp2
  go_loopw [7] (fun i wr => ∃ k : Nat, k ≤ l.length ∧ i = .int .i64 k ∧ Up w wr ∧ Hid ((l.take k).all farB = true)) (fun i _ => l.length - (intOf i).toNat)
  case atStart => exact ⟨0, by omega, rfl, Up.refl _, by simp [hide]⟩
  case round =>
    obtain ⟨k, hk, rfl, ⟨p, rfl⟩, ht⟩ := hrel
    by_cases hlt : k < l.length
    · have hkb : decide ((k : Int) < l.length) = true := by simp; omega
      have hcell := HC.out k hlt
      go_wp2_with (go_at_call 125; refine (within_any _ _ _ _).mono ?_; intro _)
      · have hf : farB l[k] = false := by simpa [farB] using (by assumption : (!withinB l[k] (-268435456) 268435456) = true)
        go_ret
        refine ⟨ret_bool ?_, (by repeat (first | with_reducible exact Up.refl _ | with_reducible apply Up.plus | apply Up.ext | apply Up.alloc | apply Up.drew | (refine Up.setCell ?_ (by simp; try omega) _)))⟩
        refine (Bool.eq_false_iff.2 ?_).symm
        intro h
        rw [List.all_eq_true] at h
        rw [h _ (List.getElem_mem hlt)] at hf
        cases hf
      · have hf : farB l[k] = true := by simpa [farB] using (by assumption : (!withinB l[k] (-268435456) 268435456) = false)
        refine ⟨⟨k + 1, by omega, by go_num, (by repeat (first | with_reducible exact Up.refl _ | with_reducible apply Up.plus | apply Up.ext | apply Up.alloc | apply Up.drew | (refine Up.setCell ?_ (by simp; try omega) _))), ?_⟩, by simp [intOf]; omega⟩
        refine hide ?_
        rw [← List.take_append_getElem hlt, List.all_append, ht.out]
        simp [hf]
    · have hkb : decide ((k : Int) < l.length) = false := by simp; omega
      go_wp2
      go_ret
      refine ⟨ret_bool ?_, (by repeat (first | with_reducible exact Up.refl _ | with_reducible apply Up.plus | apply Up.ext | apply Up.alloc | apply Up.drew | (refine Up.setCell ?_ (by simp; try omega) _)))⟩
      have := ht.out
      rw [List.take_of_length_le (by omega)] at this
      exact this.symm

/-- all numbers of a place are in range -/
def farV (p : Int × Int) : Bool := farB p.1 && farB p.2
theorem far2 {s : Nat} (t : TypeId) (x y : Int) (w : World) (hs : s = w.heap.size) :
    Gives Tryz.prog 99 #[.slice (some ⟨s, 0, none⟩) 2 2] (w.alloc (.cells #[.int .i64 x, .int .i64 y] t)) (.bool (farV (x, y))) := by
  have hb : Box (w.alloc (.cells #[.int .i64 x, .int .i64 y] t)) s #[.int .i64 x, .int .i64 y] t := Box.mk hs.symm
  have h := far_list s [x, y] _ hb.lt (by simp) (fun k hk => by
    have : k = 0 ∨ k = 1 := by simp at hk; omega
    rcases this with rfl | rfl
    · exact hb.cell 0 rfl
    · exact hb.cell 1 rfl)
  simpa [farV] using h
def farA (a b c d : Int) : Bool := farB a && (farB b && (farB c && farB d))
theorem far4 {s : Nat} (t : TypeId) (a b c d : Int) (w : World) (hs : s = w.heap.size) :
    Gives Tryz.prog 99 #[.slice (some ⟨s, 0, none⟩) 4 4] (w.alloc (.cells #[.int .i64 a, .int .i64 b, .int .i64 c, .int .i64 d] t)) (.bool (farA a b c d)) := by
  have hb : Box (w.alloc (.cells #[.int .i64 a, .int .i64 b, .int .i64 c, .int .i64 d] t)) s #[.int .i64 a, .int .i64 b, .int .i64 c, .int .i64 d] t := Box.mk hs.symm
  have h := far_list s [a, b, c, d] _ hb.lt (by simp) (fun k hk => by
    have : k = 0 ∨ k = 1 ∨ k = 2 ∨ k = 3 := by simp at hk; omega
    rcases this with rfl | rfl | rfl | rfl
    · exact hb.cell 0 rfl
    · exact hb.cell 1 rfl
    · exact hb.cell 2 rfl
    · exact hb.cell 3 rfl)
  simpa [farA] using h

def areaE (a b c d : Int) : Int := if validE a b c d = 0 then (if farA a b c d = true then 0 else 2) else validE a b c d
theorem checkarea_any (a b c d : Int) (w : World) : Gives Tryz.prog 71 #[.agg #[.int .i64 a, .int .i64 b, .int .i64 c, .int .i64 d]] w (.int .i64 (areaE a b c d)) := by
  (unfold Gives; go_enter Tryz.func71, Tryz.ntmps71)
  go_wp2_with (first | (go_at_call 98; refine (valid_any _ _ _ _ _).mono ?_; intro _) | (go_at_call 99; refine (far4 _ _ _ _ _ _ (by simp)).mono ?_; intro _))
  all_goals (go_ret; refine ⟨ret_int ?_, (by repeat (first | with_reducible exact Up.refl _ | with_reducible apply Up.plus | apply Up.ext | apply Up.alloc | apply Up.drew | (refine Up.setCell ?_ (by simp; try omega) _)))⟩)
  all_goals (go_light; first | (simp_all [areaE]; done) | (simp_all [areaE]; omega) | (simp_all [areaE]; repeat' split; all_goals (first | (simp_all; done) | omega | (simp_all; omega))))

def asks2B (x y u v r : Int) : Bool := farV (x, y) && farV (u, v) && withinB r 0 268435456
/-- the sign of the cross product, as the program reckons it -/
def crossV (a b c d : Int) : Int := cmpW ((a.natAbs : Int) * d.natAbs / 18446744073709551616) ((a.natAbs : Int) * d.natAbs % 18446744073709551616) (decide (a < 0) != decide (d < 0)) ((b.natAbs : Int) * c.natAbs / 18446744073709551616) ((b.natAbs : Int) * c.natAbs % 18446744073709551616) (decide (b < 0) != decide (c < 0))
/-- the sign of the dot product, likewise -/
def dotV (a b c d : Int) : Int := cmpW ((a.natAbs : Int) * c.natAbs / 18446744073709551616) ((a.natAbs : Int) * c.natAbs % 18446744073709551616) (decide (a < 0) != decide (c < 0)) ((b.natAbs : Int) * d.natAbs / 18446744073709551616) ((b.natAbs : Int) * d.natAbs % 18446744073709551616) (!(decide (b < 0) != decide (d < 0)))
end Go.Proofs.YtbcgdhldkanecaaGreat

/- Segments: how near they come to the origin. Numbers within 2^28. -/
namespace Go.Proofs.YtbcgdhldkanecaaGreat
set_option linter.unusedVariables false
set_option linter.unusedSimpArgs false
open Go.RowKit

theorem far_iff (n : Int) : farB n = true ↔ -268435456 ≤ n ∧ n ≤ 268435456 := by simp [farB, withinB]
theorem farV_iff (p : Int × Int) : farV p = true ↔ (-268435456 ≤ p.1 ∧ p.1 ≤ 268435456) ∧ (-268435456 ≤ p.2 ∧ p.2 ≤ 268435456) := by simp [farV, far_iff]

theorem mul_self_nonneg (x : Int) : 0 ≤ x * x := by
  rcases Int.le_total 0 x with h | h
  · exact Int.mul_nonneg h h
  · exact Int.mul_nonneg_of_nonpos_of_nonpos h h
def sqV (x y : Int) : Int := x * x + y * y
theorem mul_bd {x y B C : Int} (x0 : -B ≤ x) (x1 : x ≤ B) (y0 : -C ≤ y) (y1 : y ≤ C) : -(B * C) ≤ x * y ∧ x * y ≤ B * C := by
  constructor
  · rcases Int.le_total 0 x with h | h
    · have h1 := Int.mul_le_mul_of_nonneg_left y0 h
      have h2 := Int.mul_le_mul_of_nonneg_right x1 (show 0 ≤ C by omega)
      rw [Int.mul_neg] at h1; omega
    · have h1 := Int.mul_le_mul_of_nonpos_left h y1
      have h2 := Int.mul_le_mul_of_nonneg_right x0 (show 0 ≤ C by omega)
      rw [Int.neg_mul] at h2; omega
  · rcases Int.le_total 0 x with h | h
    · have h1 := Int.mul_le_mul_of_nonneg_left y1 h
      have h2 := Int.mul_le_mul_of_nonneg_right x1 (show 0 ≤ C by omega)
      omega
    · have h1 := Int.mul_le_mul_of_nonpos_left h y0
      have h2 := Int.mul_le_mul_of_nonneg_right x0 (show 0 ≤ C by omega)
      rw [Int.neg_mul] at h2; rw [Int.mul_neg] at h1; omega

def nearB (x y r : Int) : Bool := farV (x, y) && withinB r 0 268435456 && decide (sqV x y ≤ r * r)
/-- whether the segment from p to q comes within r of the origin -/
def comesB (px py qx qy r : Int) : Bool :=
  if 0 ≤ px * (qx - px) + py * (qy - py) then decide (sqV px py ≤ r * r)
  else if qx * (qx - px) + qy * (qy - py) ≤ 0 then decide (sqV qx qy ≤ r * r)
  else decide ((px * qy - py * qx) * (px * qy - py * qx) ≤ r * r * sqV (qx - px) (qy - py))

theorem less_split (x y : Int) : lessW (x / 18446744073709551616) (x % 18446744073709551616) (y / 18446744073709551616) (y % 18446744073709551616) = decide (x < y) := by
  unfold lessW
  exact decide_eq_decide.2 (by omega)

def withinS (px py qx qy r : Int) : Bool := asks2B px py qx qy r && comesB px py qx qy r
end Go.Proofs.YtbcgdhldkanecaaGreat

/- The whole root of a number and of a span: the program's. -/
namespace Go.Proofs.YtbcgdhldkanecaaGreat
set_option linter.unusedVariables false
set_option linter.unusedSimpArgs false
open Go.RowKit

theorem RootAt.lt {n o B : Int} (h : RootAt n o B) (h1 : n < 18446744073709551616) : 0 ≤ B ∧ o + 2 * B ≤ 4294967296 := by
  obtain ⟨h2, h3, h4⟩ := h
  rcases h4 with ⟨rfl, h4⟩ | ⟨j, hj, rfl, hc, h5, h6⟩
  · have := lt_of_sq (a := o) (b := 4294967296) (by omega) (by omega)
    omega
  · have := Int.pow_pos (n := 2) (m := j) (by omega)
    omega

theorem RootAt.bit {n o B : Int} (h : RootAt n o B) (h1 : n < 18446744073709551616) (hB : 0 < B) : bits BinOp.or IntKind.u64 o B = o + B := by
  obtain ⟨l0, l1⟩ := h.lt h1
  obtain ⟨h2, h3, h4⟩ := h
  rcases h4 with ⟨rfl, h4⟩ | ⟨j, hj, rfl, ⟨c, hc⟩, h5, h6⟩
  · omega
  · have hp : ((2 : Int) ^ j) = ((2 ^ j : Nat) : Int) := by rw [Int.natCast_pow]; rfl
    have hb : 2 ^ j < 18446744073709551616 := Nat.lt_of_lt_of_eq (@Nat.pow_lt_pow_right 2 j 64 (by omega) (by omega)) (by decide)
    have hz : c * 2 ^ (j + 1) < 18446744073709551616 := by
      have h7 : 0 < (2 : Int) ^ j := Int.pow_pos (by omega)
      generalize c * 2 ^ (j + 1) = z at *
      omega
    rw [hp, hc, bits_or_u64_nat _ _ hz hb, ← Int.natCast_add]
    congr 1
    rw [Nat.mul_comm]
    exact (Nat.two_pow_add_eq_or_of_lt (Nat.pow_lt_pow_right (by omega) (by omega)) c).symm
theorem RootAt.done {n o : Int} (h : RootAt n o 0) (n0 : 0 ≤ n) (n1 : n < 18446744073709551616) : o = isq n := by
  refine isq_eq n0 n1 h.nonneg h.sq ?_
  rcases h.rest with ⟨_, h4⟩ | ⟨j, _, h5, _⟩
  · exact h4
  · have := Int.pow_pos (n := 2) (m := j) (by omega)
    omega

theorem root_any (n : Int) (n0 : 0 ≤ n) (n1 : n < 18446744073709551616) (w : World) : Gives Tryz.prog 133 #[.int .u64 n] w (.int .u64 (isq n)) := by
  (unfold Gives; go_enter Tryz.func133, Tryz.ntmps133)
  go_wp2
  go_loop [3, 4] (fun s3 s4 => ∃ o B : Int, s3 = .int .u64 o ∧ s4 = .int .u64 B ∧ Hid (RootAt n o B) ∧ 0 ≤ o ∧ 0 ≤ B ∧ o + 2 * B ≤ 4294967296) (fun _ s4 => (intOf s4).toNat)
  case atStart => exact ⟨0, 2147483648, rfl, rfl, hide (RootAt.start n n0 n1), by omega, by omega, by omega⟩
  case round =>
    obtain ⟨o, B, rfl, rfl, hR, o0, b0, ob⟩ := hrel
    by_cases hB : 0 < B
    · have hor := hR.out.bit n1 hB
      obtain ⟨X, hX⟩ : ∃ X, o + B = X := ⟨_, rfl⟩
      have hst := hR.out.step hB
      rw [hX] at hor hst
      have hXX := mul_bd (x := X) (y := X) (B := 4294967295) (C := 4294967295) (by omega) (by omega) (by omega) (by omega)
      have hX0 := mul_self_nonneg X
      have HS := hide hst
      clear hst
      go_wp2
      · have hle : X * X ≤ n := by assumption
        have hs := HS.out X (.inl ⟨rfl, hle⟩)
        exact ⟨⟨X, B / 2, rfl, rfl, hide hs, hs.nonneg, (hs.lt n1).1, (hs.lt n1).2⟩, by simp [intOf]; omega⟩
      · have hlt : n < X * X := by assumption
        have hs := HS.out o (.inr ⟨rfl, hlt⟩)
        exact ⟨⟨o, B / 2, rfl, rfl, hide hs, hs.nonneg, (hs.lt n1).1, (hs.lt n1).2⟩, by simp [intOf]; omega⟩
    · obtain rfl : B = 0 := by omega
      have hd := hide (hR.out.done n0 n1)
      go_wp2
      go_ret
      exact ⟨ret_int hd.out, Up.refl _⟩

def rootV (n : Int) : Int := if n < 0 then -1 else isq n
theorem Root_any (n : Int) (n0 : -9223372036854775808 ≤ n) (n1 : n ≤ 9223372036854775807) (w : World) : Gives Tryz.prog 112 #[.int .i64 n] w (.int .i64 (rootV n)) := by
  by_cases h : n < 0
  · rw [show rootV n = -1 by unfold rootV; rw [if_pos h]]
    (unfold Gives; go_enter Tryz.func112, Tryz.ntmps112)
    go_wp2
    go_ret
    exact ⟨rfl, (by repeat (first | with_reducible exact Up.refl _ | with_reducible apply Up.plus | apply Up.ext | apply Up.alloc | apply Up.drew | (refine Up.setCell ?_ (by simp; try omega) _)))⟩
  · rw [show rootV n = isq n by unfold rootV; rw [if_neg h]]
    obtain ⟨i0, i1, i2⟩ := isq_spec n (by omega) (by omega)
    have i3 := lt_of_sq (a := isq n) (b := 3037000500) (by omega) (by omega)
    have H := hide (fun W => root_any n (by omega) (by omega) W)
    generalize isq n = r at *
    clear i1 i2
    (unfold Gives; go_enter Tryz.func112, Tryz.ntmps112)
    go_wp2_with (go_at_call 133; (with_reducible refine (H.out _).mono ?_); intro _)
    go_ret
    exact ⟨rfl, (by repeat (first | with_reducible exact Up.refl _ | with_reducible apply Up.plus | apply Up.ext | apply Up.alloc | apply Up.drew | (refine Up.setCell ?_ (by simp; try omega) _)))⟩

/-- the span of roots -/
def rootsS (a b : Int) : Int × Int × Int := if checkE a b = 0 then (if a < 0 then (0, 0, 2) else (isq a, (if isq b * isq b < b then isq b + 1 else isq b), 0)) else (0, 0, checkE a b)
theorem roots_any (a b : Int) (w : World) : Gives Tryz.prog 86 #[.agg #[.int .i64 a, .int .i64 b]] w
    (.tuple #[.agg #[.int .i64 (rootsS a b).1, .int .i64 (rootsS a b).2.1], .int .i64 (rootsS a b).2.2]) := by
  by_cases hv : checkE a b = 0
  · obtain ⟨a0, a1, a2⟩ := check_zero hv
    have hvb : (checkE a b != 0) = false := by simp [hv]
    by_cases hn : a < 0
    · rw [show rootsS a b = (0, 0, 2) by unfold rootsS; rw [if_pos hv, if_pos hn]]
      clear hv
      (unfold Gives; go_enter Tryz.func86, Tryz.ntmps86)
      go_wp2_with (go_at_call 111; (with_reducible refine (check_any _ _ _).mono ?_); intro _)
      all_goals (refine bodyPost_give (by repeat (first | with_reducible exact Up.refl _ | with_reducible apply Up.plus | apply Up.ext | apply Up.alloc | apply Up.drew | (refine Up.setCell ?_ (by simp; try omega) _))) rfl ⟨_, (by simp [results, Tryz.results86, go_sem]; rfl), ?_⟩)
      all_goals rfl
    · rw [show rootsS a b = (isq a, (if isq b * isq b < b then isq b + 1 else isq b), 0) by unfold rootsS; rw [if_pos hv, if_neg hn]]
      obtain ⟨i0, i1, i2⟩ := isq_spec b (by omega) (by omega)
      have i3 := lt_of_sq (a := isq b) (b := 1073741825) (by omega) (by omega)
      have H1 := hide (fun W => Root_any a (by omega) (by omega) W)
      have H2 := hide (fun W => Root_any b (by omega) (by omega) W)
      rw [show rootV a = isq a by unfold rootV; rw [if_neg (by omega)]] at H1
      rw [show rootV b = isq b by unfold rootV; rw [if_neg (by omega)]] at H2
      generalize isq b = r at *
      generalize isq a = q at *
      clear i2 hv
      have i4 := mul_bd (x := r) (y := r) (B := 1073741824) (C := 1073741824) (by omega) (by omega) (by omega) (by omega)
      have hn' : 0 ≤ a := by omega
      (unfold Gives; go_enter Tryz.func86, Tryz.ntmps86)
      go_wp2_with (first | (go_at_call 111; (with_reducible refine (check_any _ _ _).mono ?_); intro _) | (go_at_call 112; (with_reducible refine (H1.out _).mono ?_); intro _) | (go_at_call 112; (with_reducible refine (H2.out _).mono ?_); intro _))
      all_goals (refine bodyPost_give (by repeat (first | with_reducible exact Up.refl _ | with_reducible apply Up.plus | apply Up.ext | apply Up.alloc | apply Up.drew | (refine Up.setCell ?_ (by simp; try omega) _))) rfl ⟨_, (by simp [results, Tryz.results86, go_sem]; rfl), ?_⟩)
      all_goals (first | rfl | (exfalso; omega))
  · have hvb : (checkE a b != 0) = true := by simp [hv]
    rw [show rootsS a b = (0, 0, checkE a b) by unfold rootsS; rw [if_neg hv]]
    clear hv
    (unfold Gives; go_enter Tryz.func86, Tryz.ntmps86)
    go_wp2_with (go_at_call 111; (with_reducible refine (check_any _ _ _).mono ?_); intro _)
    all_goals (refine bodyPost_give (by repeat (first | with_reducible exact Up.refl _ | with_reducible apply Up.plus | apply Up.ext | apply Up.alloc | apply Up.drew | (refine Up.setCell ?_ (by simp; try omega) _))) rfl ⟨_, (by simp [results, Tryz.results86, go_sem]; rfl), ?_⟩)
    all_goals rfl
end Go.Proofs.YtbcgdhldkanecaaGreat

/- What moves a body, in plain Lean: pulls, light, heat, gas, energies, which body rules. No program. -/
namespace Go.Proofs.YtbcgdhldkanecaaGreat
set_option linter.unusedVariables false
set_option linter.unusedSimpArgs false
open Go.RowKit

abbrev Sp := Int × Int
abbrev Ar := Int × Int × Int × Int
def addP (a b : Sp) : Sp := ((addS a.1 a.2 b.1 b.2).1, (addS a.1 a.2 b.1 b.2).2.1)
def subP (a b : Sp) : Sp := ((subS a.1 a.2 b.1 b.2).1, (subS a.1 a.2 b.1 b.2).2.1)
def mulP (a b : Sp) : Sp := ((mulS a.1 a.2 b.1 b.2).1, (mulS a.1 a.2 b.1 b.2).2.1)
def quotP (a b : Sp) : Sp := ((quotS a.1 a.2 b.1 b.2).1, (quotS a.1 a.2 b.1 b.2).2.1)
def squareP (a : Sp) : Sp := ((squareS a.1 a.2).1, (squareS a.1 a.2).2.1)
def rootsP (a : Sp) : Sp := ((rootsS a.1 a.2).1, (rootsS a.1 a.2).2.1)
def arX (a : Ar) : Sp := (a.1, a.2.1)
def arY (a : Ar) : Sp := (a.2.2.1, a.2.2.2)
def mkA (x y : Sp) : Ar := (x.1, x.2, y.1, y.2)

def boundedE (a b lo hi : Int) : Int := if b < a then 11 else if a < lo ∨ hi < b then 2 else 0
def driftE (l h : Sp) (g : Int) : Int :=
  if boundedE l.1 l.2 0 1000 = 0 then (if boundedE h.1 h.2 (-1000) 1000 = 0 then (if withinB g 0 1000 = true then 0 else 2) else boundedE h.1 h.2 (-1000) 1000) else boundedE l.1 l.2 0 1000
def limB (a b : Int) : Bool := decide (-33554432 ≤ a ∧ b ≤ 33554432)
/-- the error of a question -/
def askedE (bs : List Bod) (home : Int) (l h : Sp) (g tick : Int) (a : Ar) : Int :=
  if worldE bs home = 0 then
    (if driftE l h g = 0 then
      (if withinB tick 0 1073741824 = true then
        (if areaE a.1 a.2.1 a.2.2.1 a.2.2.2 = 0 then (if limB a.1 a.2.1 = true ∧ limB a.2.2.1 a.2.2.2 = true then 0 else 2) else areaE a.1 a.2.1 a.2.2.1 a.2.2.2)
      else 2)
    else driftE l h g)
  else worldE bs home
def edgeV (r : Int) : Int := max 1 (r * r)
/-- the vectors from an area to a place -/
def toP (p : Sp) (a : Ar) : Ar := mkA (subP (p.1, p.1) (arX a)) (subP (p.2, p.2) (arY a))
/-- squared distances; distances -/
def sqP (r : Int) (v : Ar) : Sp := (max (addP (squareP (arX v)) (squareP (arY v))).1 (edgeV r), max (addP (squareP (arX v)) (squareP (arY v))).2 (edgeV r))
def distP (r : Int) (v : Ar) : Sp := rootsP (sqP r v)
def mdP (mu n d : Int) : Sp := if (mulDivE mu n d).2.2 = 0 then ((mulDivE mu n d).1, (mulDivE mu n d).2.1) else if n < 0 then (-1152921504606846976, -1152921504606846976) else (1152921504606846976, 1152921504606846976)
def hullP (a b : Sp) : Sp := (min a.1 b.1, max a.2 b.2)
def scaledP (mu : Int) (x q : Sp) : Sp := hullP (hullP (hullP (mdP mu x.1 q.1) (mdP mu x.2 q.1)) (mdP mu x.1 q.2)) (mdP mu x.2 q.2)
def clampP (s : Sp) : Sp := (min (max s.1 (-1048576)) 1048576, min (max s.2 (-1048576)) 1048576)
def towardP (mu : Int) (x q r : Sp) : Sp := clampP (quotP (scaledP mu x q) r)
/-- the pull of a body in a place on an area -/
def pullP (mu r : Int) (p : Sp) (a : Ar) : Ar :=
  mkA (towardP mu (arX (toP p a)) (sqP r (toP p a)) (distP r (toP p a))) (towardP mu (arY (toP p a)) (sqP r (toP p a)) (distP r (toP p a)))
def pullB (tick : Int) (a : Ar) (b : Bod) : Ar := pullP b.mu b.radius (placeV b tick) a
def partP (a b : Sp) : Sp := quotP (mulP a b) (1000, 1000)
def minusP (s : Sp) : Sp := (-s.2, -s.1)
def lightP (l : Sp) (p : Ar) : Ar := mkA (minusP (partP l (arX p))) (minusP (partP l (arY p)))
def heatP (h : Sp) (p : Ar) : Ar := mkA (minusP (partP h (arY p))) (partP h (arX p))
def sumP (a b : Ar) : Ar := mkA (addP (arX a) (arX b)) (addP (arY a) (arY b))
def gasP (g : Int) : Ar := (-g, g, -g, g)
/-- the reference's sum: gas, light, heat, then all pulls -/
def overR (bs : List Bod) (l h : Sp) (g tick : Int) (a : Ar) : Ar :=
  (bs.map (pullB tick a)).foldl sumP (sumP (sumP (gasP g) (lightP l ((bs.map (pullB tick a)).headD (0, 0, 0, 0)))) (heatP h ((bs.map (pullB tick a)).headD (0, 0, 0, 0))))
/-- the program's sum of areas, from zero -/
def sum0 (l : List Ar) : Ar := l.foldl sumP (0, 0, 0, 0)
def overQ (l h : Sp) : List Ar → Ar → Ar
  | [], out => out
  | p :: ps, out => (ps.foldl (fun o p => sum0 [o, p]) (sum0 [sum0 [out, p], lightP l p, heatP h p]))
def strengthP (p : Ar) : Sp := addP (squareP (arX p)) (squareP (arY p))
/-- the number of the first whose least is beyond all others' greatest; -1: none -/
def rulesAt (l : List Sp) (i : Nat) : Bool := (List.range l.length).all fun k => k == i || decide ((l.getD k (0, 0)).2 < (l.getD i (0, 0)).1)
def rulerP (l : List Sp) : Int × Bool := match (List.range l.length).find? (rulesAt l) with
  | some i => (i, true)
  | none => (0, false)
def energyP (bs : List Bod) (tick : Int) (a : Ar) (n : Int) : Sp :=
  bs.foldl (fun o b => subP o (addP (quotP (b.mu, b.mu) (distP b.radius (toP (placeV b tick) a))) (quotP (b.mu, b.mu) (distP b.radius (toP (placeV b tick) a))))) (n, n)

/-! ### plain facts -/
theorem addP_of {a b : Sp} (h1 : checkE a.1 a.2 = 0) (h2 : checkE b.1 b.2 = 0) (h3 : -1152921504606846976 ≤ a.1 + b.1) (h4 : a.2 + b.2 ≤ 1152921504606846976) : addP a b = (a.1 + b.1, a.2 + b.2) := by
  obtain ⟨a0, a1, a2⟩ := check_zero h1
  obtain ⟨b0, b1, b2⟩ := check_zero h2
  unfold addP addS
  rw [if_pos (by unfold validE; rw [if_pos h1]; exact h2)]
  unfold endsS
  rw [if_pos ⟨(fits_iff _).2 (by omega), (fits_iff _).2 (by omega)⟩]
theorem addP_zero {s : Sp} (h : checkE s.1 s.2 = 0) : addP (0, 0) s = s := by
  obtain ⟨a0, a1, a2⟩ := check_zero h
  rw [addP_of (check_ok (by omega) (by omega) (by omega)) h (by simp; omega) (by simp; omega)]
  simp
theorem ends_check (lo hi : Int) (h : lo ≤ hi) : checkE (endsS lo hi).1 (endsS lo hi).2.1 = 0 := by
  unfold endsS
  split
  · rename_i hf
    exact check_ok ((fits_iff _).1 hf.1).1 h ((fits_iff _).1 hf.2).2
  · show checkE 0 0 = 0; decide
theorem sq_mono {a b : Int} (h0 : 0 ≤ a) (h1 : a ≤ b) : a * a ≤ b * b := Int.mul_le_mul h1 h1 h0 (by omega)
theorem squareP_check (s : Sp) : checkE (squareP s).1 (squareP s).2 = 0 := by
  unfold squareP squareS
  split
  · rename_i h
    obtain ⟨a0, a1, a2⟩ := check_zero h
    split
    · show checkE 0 0 = 0; decide
    · exact ends_check _ _ (sq_mono (by omega) (by omega))
  · show checkE 0 0 = 0; decide
theorem subP_of {a b : Sp} (h1 : checkE a.1 a.2 = 0) (h2 : checkE b.1 b.2 = 0) (h3 : -1152921504606846976 ≤ a.1 - b.2) (h4 : a.2 - b.1 ≤ 1152921504606846976) : subP a b = (a.1 - b.2, a.2 - b.1) := by
  obtain ⟨a0, a1, a2⟩ := check_zero h1
  obtain ⟨b0, b1, b2⟩ := check_zero h2
  unfold subP subS
  rw [if_pos (by unfold validE; rw [if_pos h1]; exact h2)]
  unfold endsS
  rw [if_pos ⟨(fits_iff _).2 (by omega), (fits_iff _).2 (by omega)⟩]
end Go.Proofs.YtbcgdhldkanecaaGreat

