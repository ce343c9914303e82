/- Plain facts of pulls: vectors, squares, distances, pulls of valid questions; less for less. No program. -/
import Derived.Test.YtbcgdhldkanecaaForceQ
namespace Go.Proofs.Ytbcgdhldkanecaa
open Go.RowKit

/-- an area whose ends lie in order, up to m -/
def OrdA (m : Int) (a : Ar) : Prop := Ord m (arX a) ∧ Ord m (arY a)
theorem toP_val {p : Sp} {a : Ar} (hp1 : -33554432 ≤ p.1 ∧ p.1 ≤ 33554432) (hp2 : -33554432 ≤ p.2 ∧ p.2 ≤ 33554432) (ha : OrdA 33554432 a) : toP p a = (p.1 - a.2.1, p.1 - a.1, p.2 - a.2.2.2, p.2 - a.2.2.1) := by
  obtain ⟨⟨x0, x1, x2⟩, y0, y1, y2⟩ := ha
  simp only [arX, arY] at x0 x1 x2 y0 y1 y2
  unfold toP mkA arX arY
  rw [subP_of (check_ok (by simp only; omega) (by simp only; omega) (by simp only; omega)) (check_ok (by simp only; omega) (by simp only; omega) (by simp only; omega)) (by simp only; omega) (by simp only; omega),
    subP_of (check_ok (by simp only; omega) (by simp only; omega) (by simp only; omega)) (check_ok (by simp only; omega) (by simp only; omega) (by simp only; omega)) (by simp only; omega) (by simp only; omega)]
theorem toP_ord {p : Sp} {a : Ar} (hp1 : -33554432 ≤ p.1 ∧ p.1 ≤ 33554432) (hp2 : -33554432 ≤ p.2 ∧ p.2 ≤ 33554432) (ha : OrdA 33554432 a) : OrdA 67108864 (toP p a) := by
  rw [toP_val hp1 hp2 ha]
  obtain ⟨⟨x0, x1, x2⟩, y0, y1, y2⟩ := ha
  simp only [arX, arY] at x0 x1 x2 y0 y1 y2
  unfold OrdA Ord arX arY
  simp only
  omega
theorem toP_sub {p : Sp} {a b : Ar} (hp1 : -33554432 ≤ p.1 ∧ p.1 ≤ 33554432) (hp2 : -33554432 ≤ p.2 ∧ p.2 ≤ 33554432) (ha : OrdA 33554432 a) (hb : OrdA 33554432 b) (h : SubA a b) : SubA (toP p a) (toP p b) := by
  rw [toP_val hp1 hp2 ha, toP_val hp1 hp2 hb]
  obtain ⟨⟨x0, x1, x2⟩, y0, y1, y2⟩ := h
  simp only [arX, arY] at x0 x1 x2 y0 y1 y2
  unfold SubA Sub arX arY
  simp only
  omega

/-- the least and the greatest size of the numbers of a span -/
def lsz (x : Sp) : Int := max (max 0 x.1) (-x.2)
def gsz (x : Sp) : Int := max (-x.1) x.2
theorem squareP_val {x : Sp} (h : Ord 67108864 x) : squareP x = (lsz x * lsz x, gsz x * gsz x) ∧ (0 ≤ lsz x * lsz x ∧ lsz x * lsz x ≤ gsz x * gsz x) ∧ gsz x * gsz x ≤ 4503599627370496 := by
  have hc := (h.mono (m' := 1152921504606846976) (by omega)).check
  obtain ⟨h0, h1, h2⟩ := h
  have b0 : 0 ≤ lsz x := by unfold lsz; omega
  have b1 : lsz x ≤ gsz x := by unfold lsz gsz; omega
  have b2 : gsz x ≤ 67108864 := by unfold gsz; omega
  have m0 : 0 ≤ lsz x * lsz x := Int.mul_nonneg b0 b0
  have m1 : lsz x * lsz x ≤ gsz x * gsz x := sq_mono b0 b1
  have m2 : gsz x * gsz x ≤ 4503599627370496 := by have := sq_mono (a := gsz x) (by omega) b2; omega
  refine ⟨?_, ⟨m0, m1⟩, m2⟩
  unfold squareP squareS
  rw [if_pos hc, if_neg (by unfold gsz at b2; omega)]
  unfold endsS
  rw [if_pos ⟨(fits_iff _).2 (by unfold lsz gsz at *; omega), (fits_iff _).2 (by unfold lsz gsz at *; omega)⟩]
  rfl
def sqsL (r : Int) (v : Ar) : Int := max (lsz (arX v) * lsz (arX v) + lsz (arY v) * lsz (arY v)) (edgeV r)
def sqsH (r : Int) (v : Ar) : Int := max (gsz (arX v) * gsz (arX v) + gsz (arY v) * gsz (arY v)) (edgeV r)
theorem edge_bd {r : Int} (r0 : 0 ≤ r) (r1 : r ≤ 1048576) : 1 ≤ edgeV r ∧ edgeV r ≤ 1099511627776 := by
  have := sq_mono r0 r1
  unfold edgeV; omega
theorem sqP_val {r : Int} {v : Ar} (hv : OrdA 67108864 v) : sqP r v = (sqsL r v, sqsH r v) := by
  obtain ⟨e1, ⟨a0, a1⟩, a2⟩ := squareP_val hv.1
  obtain ⟨e2, ⟨b0, b1⟩, b2⟩ := squareP_val hv.2
  unfold sqP
  rw [e1, e2, addP_of (check_ok (by simp only; omega) (by simp only; omega) (by simp only; omega)) (check_ok (by simp only; omega) (by simp only; omega) (by simp only; omega)) (by simp only; omega) (by simp only; omega)]
  rfl
theorem sqs_bd {r : Int} {v : Ar} (r0 : 0 ≤ r) (r1 : r ≤ 1048576) (hv : OrdA 67108864 v) : Pos 9007199254740992 (sqsL r v, sqsH r v) := by
  obtain ⟨_, ⟨a0, a1⟩, a2⟩ := squareP_val hv.1
  obtain ⟨_, ⟨b0, b1⟩, b2⟩ := squareP_val hv.2
  obtain ⟨c0, c1⟩ := edge_bd r0 r1
  unfold Pos sqsL sqsH
  simp only
  omega
theorem lsz_mono {x y : Sp} (h : Sub x y) : lsz y ≤ lsz x ∧ gsz x ≤ gsz y ∧ 0 ≤ lsz y ∧ 0 ≤ gsz x := by
  obtain ⟨h0, h1, h2⟩ := h
  unfold lsz gsz; omega
theorem sqs_sub {r : Int} {u v : Ar} (h : SubA u v) : sqsL r v ≤ sqsL r u ∧ sqsH r u ≤ sqsH r v := by
  obtain ⟨a1, a2, a3, a4⟩ := lsz_mono h.1
  obtain ⟨b1, b2, b3, b4⟩ := lsz_mono h.2
  have m1 := sq_mono a3 a1
  have m2 := sq_mono b3 b1
  have m3 := sq_mono a4 a2
  have m4 := sq_mono b4 b2
  unfold sqsL sqsH
  omega
theorem distP_val {r : Int} {v : Ar} (r0 : 0 ≤ r) (r1 : r ≤ 1048576) (hv : OrdA 67108864 v) : distP r v = (isq (sqsL r v), upq (sqsH r v)) := by
  have hb := sqs_bd r0 r1 hv
  unfold distP
  rw [sqP_val hv]
  unfold rootsP rootsS
  obtain ⟨h0, h1, h2⟩ := hb
  simp only at h0 h1 h2 ⊢
  rw [if_pos (check_ok (by omega) h1 (by omega)), if_neg (by omega)]
  rfl
theorem isq_pos {x : Int} (h : 1 ≤ x) (h1 : x < 18446744073709551616) : 1 ≤ isq x := by
  obtain ⟨a0, a1, a2⟩ := isq_spec x (by omega) h1
  rcases Int.lt_or_le (isq x) 1 with h2 | h2
  · have e : isq x = 0 := by omega
    rw [e] at a2; omega
  · exact h2
theorem isq_le {x : Int} (h : 0 ≤ x) (h1 : x < 18446744073709551616) : isq x ≤ x := by
  obtain ⟨a0, a1, a2⟩ := isq_spec x h h1
  rcases Int.lt_or_le x (isq x) with h2 | h2
  · have h3 : 1 ≤ isq x := by omega
    have := Int.mul_le_mul_of_nonneg_left h3 a0
    omega
  · exact h2
theorem dist_bd {r : Int} {v : Ar} (r0 : 0 ≤ r) (r1 : r ≤ 1048576) (hv : OrdA 67108864 v) : Pos 1152921504606846976 (isq (sqsL r v), upq (sqsH r v)) := by
  obtain ⟨h0, h1, h2⟩ := sqs_bd r0 r1 hv
  simp only at h0 h1 h2
  have i1 := isq_pos (x := sqsL r v) (by omega) (by omega)
  have i2 := isq_mono (x := sqsL r v) (y := sqsH r v) (by omega) h1 (by omega)
  have i3 := upq_spec (x := sqsH r v) (by omega) (by omega)
  have i4 := isq_le (x := sqsH r v) (by omega) (by omega)
  have i5 : upq (sqsH r v) ≤ isq (sqsH r v) + 1 := by unfold upq; split <;> omega
  unfold Pos
  simp only
  omega
/-- the pull of a body, all valid -/
theorem pullP_val {mu r : Int} {p : Sp} {a : Ar} (mu0 : 0 ≤ mu) (mu1 : mu ≤ 1125899906842624) (r0 : 0 ≤ r) (r1 : r ≤ 1048576) (hp1 : -33554432 ≤ p.1 ∧ p.1 ≤ 33554432) (hp2 : -33554432 ≤ p.2 ∧ p.2 ≤ 33554432) (ha : OrdA 33554432 a) :
    pullP mu r p a = (lowT mu (arX (toP p a)) (sqsL r (toP p a), sqsH r (toP p a)) (isq (sqsL r (toP p a)), upq (sqsH r (toP p a))), -lowT mu (minusP (arX (toP p a))) (sqsL r (toP p a), sqsH r (toP p a)) (isq (sqsL r (toP p a)), upq (sqsH r (toP p a))),
      lowT mu (arY (toP p a)) (sqsL r (toP p a), sqsH r (toP p a)) (isq (sqsL r (toP p a)), upq (sqsH r (toP p a))), -lowT mu (minusP (arY (toP p a))) (sqsL r (toP p a), sqsH r (toP p a)) (isq (sqsL r (toP p a)), upq (sqsH r (toP p a)))) := by
  have ho := toP_ord hp1 hp2 ha
  have hq := sqs_bd r0 r1 ho
  have hd := dist_bd r0 r1 ho
  have hq' : Pos 1152921504606846976 (sqsL r (toP p a), sqsH r (toP p a)) := ⟨hq.1, hq.2.1, by have := hq.2.2; omega⟩
  unfold pullP
  rw [sqP_val ho, distP_val r0 r1 ho, towardP_val mu0 mu1 (ho.1.mono (by omega)) hq' hd, towardP_val mu0 mu1 (ho.2.mono (by omega)) hq' hd]
  rfl
theorem pull_sub {mu r : Int} {p : Sp} {a b : Ar} (mu0 : 0 ≤ mu) (mu1 : mu ≤ 1125899906842624) (r0 : 0 ≤ r) (r1 : r ≤ 1048576) (hp1 : -33554432 ≤ p.1 ∧ p.1 ≤ 33554432) (hp2 : -33554432 ≤ p.2 ∧ p.2 ≤ 33554432) (ha : OrdA 33554432 a) (hb : OrdA 33554432 b) (h : SubA a b) :
    SubA (pullP mu r p a) (pullP mu r p b) := by
  rw [pullP_val mu0 mu1 r0 r1 hp1 hp2 ha, pullP_val mu0 mu1 r0 r1 hp1 hp2 hb]
  have hoa := toP_ord hp1 hp2 ha
  have hob := toP_ord hp1 hp2 hb
  have ht := toP_sub hp1 hp2 ha hb h
  have hqa := sqs_bd r0 r1 hoa
  have hqb := sqs_bd r0 r1 hob
  have hda := dist_bd r0 r1 hoa
  have hdb := dist_bd r0 r1 hob
  have hs := sqs_sub (r := r) ht
  have hq : Sub (sqsL r (toP p a), sqsH r (toP p a)) (sqsL r (toP p b), sqsH r (toP p b)) := ⟨hs.1, hqa.2.1, hs.2⟩
  obtain ⟨qa0, qa1, qa2⟩ := hqa
  obtain ⟨qb0, qb1, qb2⟩ := hqb
  simp only at qa0 qa1 qa2 qb0 qb1 qb2
  have hd : Sub (isq (sqsL r (toP p a)), upq (sqsH r (toP p a))) (isq (sqsL r (toP p b)), upq (sqsH r (toP p b))) :=
    ⟨isq_mono (by omega) hs.1 (by omega), hda.2.1, upq_mono (by omega) hs.2 (by omega)⟩
  have l1 := lowT_mono mu0 ht.1 (by simp only; omega) hq hdb.1 hd
  have l2 := lowT_mono mu0 ht.1.neg (by simp only; omega) hq hdb.1 hd
  have l3 := lowT_mono mu0 ht.2 (by simp only; omega) hq hdb.1 hd
  have l4 := lowT_mono mu0 ht.2.neg (by simp only; omega) hq hdb.1 hd
  have o1 := lowT_ord (q := (sqsL r (toP p a), sqsH r (toP p a))) (r := (isq (sqsL r (toP p a)), upq (sqsH r (toP p a)))) mu0 hoa.1.2.1 qa0 qa1 hda.1
  have o2 := lowT_ord (q := (sqsL r (toP p a), sqsH r (toP p a))) (r := (isq (sqsL r (toP p a)), upq (sqsH r (toP p a)))) mu0 hoa.2.2.1 qa0 qa1 hda.1
  refine ⟨⟨l1, ?_, ?_⟩, l3, ?_, ?_⟩
  · exact o1
  · show -lowT _ _ _ _ ≤ -lowT _ _ _ _; omega
  · exact o2
  · show -lowT _ _ _ _ ≤ -lowT _ _ _ _; omega

/-- whether n is at most mu d / (the root of q)^3, by squares -/
def atMostB (n mu d q : Int) : Bool :=
  if n ≤ 0 ∧ 0 ≤ d then true else if 0 < n ∧ d ≤ 0 then false else if 0 < n then decide (n * n * q * q * q ≤ mu * mu * d * d) else decide (mu * mu * d * d ≤ n * n * q * q * q)
def inP (p : Int × Int) (q : Int × Int) : Bool := (decide (p.1 ≤ p.2) && decide (q.1 ≤ p.1)) && decide (p.2 ≤ q.2)

theorem exact_low {mu d s : Int} (mu0 : 0 ≤ mu) (mu1 : mu ≤ 10000) (d0 : -30 ≤ d) (d1 : d ≤ 30) (s0 : 1 ≤ s) (s1 : s ≤ 1800) :
    ∃ n, lowT mu (d, d) (s, s) (isq s, upq s) = n ∧ (-300000 ≤ n ∧ n ≤ 300000) ∧ atMostB n mu d s = true ∧ n * n * s * s * s ≤ 1000000000000 := by
  obtain ⟨p0, p1⟩ := mul_bd (x := mu) (y := d) (B := 10000) (C := 30) (by omega) (by omega) (by omega) (by omega)
  obtain ⟨P, hP⟩ : ∃ P, mu * d = P := ⟨_, rfl⟩
  have hPP : mu * mu * d * d = P * P := by rw [← hP]; grind
  obtain ⟨a0, a1, a2⟩ := isq_spec s (by omega) (by omega)
  obtain ⟨b0, b1, b2, _⟩ := upq_spec (x := s) (by omega) (by omega)
  have i1 := isq_pos (x := s) s0 (by omega)
  obtain ⟨rl, hrl⟩ : ∃ r, isq s = r := ⟨_, rfl⟩
  obtain ⟨rh, hrh⟩ : ∃ r, upq s = r := ⟨_, rfl⟩
  rw [hrl, hrh] at b1
  rw [hrl] at a0 a1 a2 i1
  rw [hrh] at b0 b2
  have rl42 : rl ≤ 42 := by
    rcases Int.lt_or_le 42 rl with h | h
    · have := Int.mul_le_mul (show 43 ≤ rl by omega) (show 43 ≤ rl by omega) (by omega) (by omega); omega
    · exact h
  obtain ⟨N, hN⟩ : ∃ N, floQ P s = N := ⟨_, rfl⟩
  have n1 : N * s ≤ P := (flo_le (by omega) _).1 (by rw [hN]; exact Int.le_refl _)
  have n2 : P < (N + 1) * s := by
    have := mt (flo_le (p := P) (c := s) (by omega) (N + 1)).2 (by rw [hN]; omega)
    omega
  have n3 := flo_in (p := P) (c := s) (m := 300000) (by omega) (by omega) (by omega) (by omega)
  rw [hN] at n3
  have hlow : lowN mu (d, d) (s, s) = N := by
    unfold lowN
    simp only [hP, hN]
    rw [cl_id (by omega) (by omega)]
    omega
  have f1 := flo_in (p := N) (c := rl) (m := 300000) (by omega) (by omega) (by omega) (by omega)
  have f2 := flo_in (p := N) (c := rh) (m := 300000) (by omega) (by omega) (by omega) (by omega)
  obtain ⟨n, hn⟩ : ∃ n, min (floQ N rl) (floQ N rh) = n := ⟨_, rfl⟩
  have g1 : n * rl ≤ N := (flo_le (by omega) _).1 (by omega)
  have g2 : n * rh ≤ N := (flo_le (by omega) _).1 (by omega)
  have hT : lowT mu (d, d) (s, s) (isq s, upq s) = n := by
    unfold lowT
    simp only [hlow, hrl, hrh]
    rw [hn, cl_id (by omega) (by omega)]
  refine ⟨n, hT, by omega, ?_, ?_⟩
  · unfold atMostB
    rw [hPP]
    by_cases c1 : n ≤ 0 ∧ 0 ≤ d
    · rw [if_pos c1]
    · rw [if_neg c1]
      by_cases c2 : 0 < n ∧ d ≤ 0
      · exfalso
        have hp : P ≤ 0 := by rw [← hP]; exact Int.mul_nonpos_of_nonneg_of_nonpos mu0 c2.2
        have hNn : N ≤ 0 := by
          rcases Int.lt_or_le 0 N with h | h
          · have := Int.mul_le_mul (show 1 ≤ N by omega) s0 (by omega) (by omega); omega
          · exact h
        have := Int.mul_le_mul (show 1 ≤ n by omega) i1 (by omega) (by omega)
        omega
      · rw [if_neg c2]
        by_cases c3 : 0 < n
        · rw [if_pos c3, decide_eq_true_eq]
          have h1 : n * rh * s ≤ N * s := Int.mul_le_mul_of_nonneg_right g2 (by omega)
          have h0 : 0 ≤ n * rh * s := Int.mul_nonneg (Int.mul_nonneg (by omega) b0) (by omega)
          have h2 := sq_mono h0 (Int.le_trans h1 n1)
          have h3 : n * n * s * s * s ≤ n * n * s * s * (rh * rh) := Int.mul_le_mul_of_nonneg_left b2 (by
            have := mul_self_nonneg (n * s)
            have e : n * s * (n * s) = n * n * s * s := by grind
            omega)
          have e : n * n * s * s * (rh * rh) = n * rh * s * (n * rh * s) := by grind
          omega
        · rw [if_neg c3, decide_eq_true_eq]
          have h1 : n * rl * s ≤ N * s := Int.mul_le_mul_of_nonneg_right g1 (by omega)
          have hp : P ≤ 0 := by rw [← hP]; exact Int.mul_nonpos_of_nonneg_of_nonpos mu0 (by omega)
          have h2 := sq_mono (a := -P) (b := -(n * rl * s)) (by omega) (by omega)
          rw [Int.neg_mul_neg, Int.neg_mul_neg] at h2
          have h3 : n * n * s * s * (rl * rl) ≤ n * n * s * s * s := Int.mul_le_mul_of_nonneg_left a1 (by
            have := mul_self_nonneg (n * s)
            have e : n * s * (n * s) = n * n * s * s := by grind
            omega)
          have e : n * n * s * s * (rl * rl) = n * rl * s * (n * rl * s) := by grind
          omega
  · have hs4 : s ≤ 4 * (rl * rl) := by
      have := sq_mono (a := rl + 1) (b := 2 * rl) (by omega) (by omega)
      have e : 2 * rl * (2 * rl) = 4 * (rl * rl) := by grind
      omega
    have h3 : n * n * s * s * s ≤ n * n * s * s * (4 * (rl * rl)) := Int.mul_le_mul_of_nonneg_left hs4 (by
      have := mul_self_nonneg (n * s)
      have e : n * s * (n * s) = n * n * s * s := by grind
      omega)
    have e : n * n * s * s * (4 * (rl * rl)) = 4 * (n * rl * s * (n * rl * s)) := by grind
    have hb : -380000 ≤ n * rl * s ∧ n * rl * s ≤ 380000 := by
      have rh43 : rh ≤ 43 := by
        have : upq s ≤ isq s + 1 := by unfold upq; split <;> omega
        omega
      rcases Int.lt_or_le n 0 with hneg | hpos
      · have q1 : N - 43 ≤ n * rl := by
          have hcase : n = floQ N rl ∨ n = floQ N rh := by omega
          rcases hcase with hc | hc
          · have h4 := mt (flo_le (p := N) (c := rl) (by omega) (n + 1)).2 (by omega)
            have e : (n + 1) * rl = n * rl + rl := by grind
            omega
          · have h4 := mt (flo_le (p := N) (c := rh) (by omega) (n + 1)).2 (by omega)
            have e : (n + 1) * rh = n * rh + rh := by grind
            have h5 := Int.mul_le_mul_of_nonpos_left (a := n) (b := rh) (c := rl) (by omega) b1
            omega
        have q2 := Int.mul_le_mul_of_nonneg_right q1 (show 0 ≤ s by omega)
        have e1 : (N - 43) * s = N * s - 43 * s := by grind
        have e2 : (N + 1) * s = N * s + s := by grind
        have q3 : n * rl ≤ 0 := Int.mul_nonpos_of_nonpos_of_nonneg (by omega) (by omega)
        have q4 : n * rl * s ≤ 0 := Int.mul_nonpos_of_nonpos_of_nonneg q3 (by omega)
        omega
      · have q1 : 0 ≤ n * rl := Int.mul_nonneg hpos (by omega)
        have q2 : 0 ≤ n * rl * s := Int.mul_nonneg q1 (by omega)
        have q3 := Int.mul_le_mul_of_nonneg_right g1 (show 0 ≤ s by omega)
        omega
    have h5 := mul_bd (x := n * rl * s) (y := n * rl * s) (B := 380000) (C := 380000) hb.1 hb.2 hb.1 hb.2
    omega
end Go.Proofs.Ytbcgdhldkanecaa
