/- Plain facts of pulls: vectors, squares, distances, pulls of valid questions; less for less. No program. -/
import Derived.Test.YtbcgdhldkanecaaForceQ
namespace Go.Proofs.Ytbcgdhldkanecaa
open Go.RowKit

/-- an area whose ends lie in order, up to m -/
def OrdA (m : Int) (a : Ar) : Prop := Ord m (arX a) ∧ Ord m (arY a)
theorem toP_val {p : Sp} {a : Ar} (hp1 : -33554432 ≤ p.1 ∧ p.1 ≤ 33554432) (hp2 : -33554432 ≤ p.2 ∧ p.2 ≤ 33554432) (ha : OrdA 33554432 a) : toP p a = (p.1 - a.2.1, p.1 - a.1, p.2 - a.2.2.2, p.2 - a.2.2.1) := by
  obtain ⟨⟨x0, x1, x2⟩, y0, y1, y2⟩ := ha
  simp only [arX, arY] at x0 x1 x2 y0 y1 y2
  unfold toP mkA arX arY
  rw [subP_of (check_ok (by simp only; omega) (by simp only; omega) (by simp only; omega)) (check_ok (by simp only; omega) (by simp only; omega) (by simp only; omega)) (by simp only; omega) (by simp only; omega),
    subP_of (check_ok (by simp only; omega) (by simp only; omega) (by simp only; omega)) (check_ok (by simp only; omega) (by simp only; omega) (by simp only; omega)) (by simp only; omega) (by simp only; omega)]
theorem toP_ord {p : Sp} {a : Ar} (hp1 : -33554432 ≤ p.1 ∧ p.1 ≤ 33554432) (hp2 : -33554432 ≤ p.2 ∧ p.2 ≤ 33554432) (ha : OrdA 33554432 a) : OrdA 67108864 (toP p a) := by
  rw [toP_val hp1 hp2 ha]
  obtain ⟨⟨x0, x1, x2⟩, y0, y1, y2⟩ := ha
  simp only [arX, arY] at x0 x1 x2 y0 y1 y2
  unfold OrdA Ord arX arY
  simp only
  omega
theorem toP_sub {p : Sp} {a b : Ar} (hp1 : -33554432 ≤ p.1 ∧ p.1 ≤ 33554432) (hp2 : -33554432 ≤ p.2 ∧ p.2 ≤ 33554432) (ha : OrdA 33554432 a) (hb : OrdA 33554432 b) (h : SubA a b) : SubA (toP p a) (toP p b) := by
  rw [toP_val hp1 hp2 ha, toP_val hp1 hp2 hb]
  obtain ⟨⟨x0, x1, x2⟩, y0, y1, y2⟩ := h
  simp only [arX, arY] at x0 x1 x2 y0 y1 y2
  unfold SubA Sub arX arY
  simp only
  omega

/-- the least and the greatest size of the numbers of a span -/
def lsz (x : Sp) : Int := max (max 0 x.1) (-x.2)
def gsz (x : Sp) : Int := max (-x.1) x.2
theorem squareP_val {x : Sp} (h : Ord 67108864 x) : squareP x = (lsz x * lsz x, gsz x * gsz x) ∧ (0 ≤ lsz x * lsz x ∧ lsz x * lsz x ≤ gsz x * gsz x) ∧ gsz x * gsz x ≤ 4503599627370496 := by
  have hc := (h.mono (m' := 1152921504606846976) (by omega)).check
  obtain ⟨h0, h1, h2⟩ := h
  have b0 : 0 ≤ lsz x := by unfold lsz; omega
  have b1 : lsz x ≤ gsz x := by unfold lsz gsz; omega
  have b2 : gsz x ≤ 67108864 := by unfold gsz; omega
  have m0 : 0 ≤ lsz x * lsz x := Int.mul_nonneg b0 b0
  have m1 : lsz x * lsz x ≤ gsz x * gsz x := sq_mono b0 b1
  have m2 : gsz x * gsz x ≤ 4503599627370496 := by have := sq_mono (a := gsz x) (by omega) b2; omega
  refine ⟨?_, ⟨m0, m1⟩, m2⟩
  unfold squareP squareS
  rw [if_pos hc, if_neg (by unfold gsz at b2; omega)]
  unfold endsS
  rw [if_pos ⟨(fits_iff _).2 (by unfold lsz gsz at *; omega), (fits_iff _).2 (by unfold lsz gsz at *; omega)⟩]
  rfl
def sqsL (r : Int) (v : Ar) : Int := max (lsz (arX v) * lsz (arX v) + lsz (arY v) * lsz (arY v)) (edgeV r)
def sqsH (r : Int) (v : Ar) : Int := max (gsz (arX v) * gsz (arX v) + gsz (arY v) * gsz (arY v)) (edgeV r)
theorem edge_bd {r : Int} (r0 : 0 ≤ r) (r1 : r ≤ 1048576) : 1 ≤ edgeV r ∧ edgeV r ≤ 1099511627776 := by
  have := sq_mono r0 r1
  unfold edgeV; omega
theorem sqP_val {r : Int} {v : Ar} (hv : OrdA 67108864 v) : sqP r v = (sqsL r v, sqsH r v) := by
  obtain ⟨e1, ⟨a0, a1⟩, a2⟩ := squareP_val hv.1
  obtain ⟨e2, ⟨b0, b1⟩, b2⟩ := squareP_val hv.2
  unfold sqP
  rw [e1, e2, addP_of (check_ok (by simp only; omega) (by simp only; omega) (by simp only; omega)) (check_ok (by simp only; omega) (by simp only; omega) (by simp only; omega)) (by simp only; omega) (by simp only; omega)]
  rfl
theorem sqs_bd {r : Int} {v : Ar} (r0 : 0 ≤ r) (r1 : r ≤ 1048576) (hv : OrdA 67108864 v) : Pos 9007199254740992 (sqsL r v, sqsH r v) := by
  obtain ⟨_, ⟨a0, a1⟩, a2⟩ := squareP_val hv.1
  obtain ⟨_, ⟨b0, b1⟩, b2⟩ := squareP_val hv.2
  obtain ⟨c0, c1⟩ := edge_bd r0 r1
  unfold Pos sqsL sqsH
  simp only
  omega
theorem lsz_mono {x y : Sp} (h : Sub x y) : lsz y ≤ lsz x ∧ gsz x ≤ gsz y ∧ 0 ≤ lsz y ∧ 0 ≤ gsz x := by
  obtain ⟨h0, h1, h2⟩ := h
  unfold lsz gsz; omega
theorem sqs_sub {r : Int} {u v : Ar} (h : SubA u v) : sqsL r v ≤ sqsL r u ∧ sqsH r u ≤ sqsH r v := by
  obtain ⟨a1, a2, a3, a4⟩ := lsz_mono h.1
  obtain ⟨b1, b2, b3, b4⟩ := lsz_mono h.2
  have m1 := sq_mono a3 a1
  have m2 := sq_mono b3 b1
  have m3 := sq_mono a4 a2
  have m4 := sq_mono b4 b2
  unfold sqsL sqsH
  omega
theorem distP_val {r : Int} {v : Ar} (r0 : 0 ≤ r) (r1 : r ≤ 1048576) (hv : OrdA 67108864 v) : distP r v = (isq (sqsL r v), upq (sqsH r v)) := by
  have hb := sqs_bd r0 r1 hv
  unfold distP
  rw [sqP_val hv]
  unfold rootsP rootsS
  obtain ⟨h0, h1, h2⟩ := hb
  simp only at h0 h1 h2 ⊢
  rw [if_pos (check_ok (by omega) h1 (by omega)), if_neg (by omega)]
  rfl
theorem isq_pos {x : Int} (h : 1 ≤ x) (h1 : x < 18446744073709551616) : 1 ≤ isq x := by
  obtain ⟨a0, a1, a2⟩ := isq_spec x (by omega) h1
  rcases Int.lt_or_le (isq x) 1 with h2 | h2
  · have e : isq x = 0 := by omega
    rw [e] at a2; omega
  · exact h2
theorem isq_le {x : Int} (h : 0 ≤ x) (h1 : x < 18446744073709551616) : isq x ≤ x := by
  obtain ⟨a0, a1, a2⟩ := isq_spec x h h1
  rcases Int.lt_or_le x (isq x) with h2 | h2
  · have h3 : 1 ≤ isq x := by omega
    have := Int.mul_le_mul_of_nonneg_left h3 a0
    omega
  · exact h2
theorem dist_bd {r : Int} {v : Ar} (r0 : 0 ≤ r) (r1 : r ≤ 1048576) (hv : OrdA 67108864 v) : Pos 1152921504606846976 (isq (sqsL r v), upq (sqsH r v)) := by
  obtain ⟨h0, h1, h2⟩ := sqs_bd r0 r1 hv
  simp only at h0 h1 h2
  have i1 := isq_pos (x := sqsL r v) (by omega) (by omega)
  have i2 := isq_mono (x := sqsL r v) (y := sqsH r v) (by omega) h1 (by omega)
  have i3 := upq_spec (x := sqsH r v) (by omega) (by omega)
  have i4 := isq_le (x := sqsH r v) (by omega) (by omega)
  have i5 : upq (sqsH r v) ≤ isq (sqsH r v) + 1 := by unfold upq; split <;> omega
  unfold Pos
  simp only
  omega
/-- the pull of a body, all valid -/
theorem pullP_val {mu r : Int} {p : Sp} {a : Ar} (mu0 : 0 ≤ mu) (mu1 : mu ≤ 1125899906842624) (r0 : 0 ≤ r) (r1 : r ≤ 1048576) (hp1 : -33554432 ≤ p.1 ∧ p.1 ≤ 33554432) (hp2 : -33554432 ≤ p.2 ∧ p.2 ≤ 33554432) (ha : OrdA 33554432 a) :
    pullP mu r p a = (lowT mu (arX (toP p a)) (sqsL r (toP p a), sqsH r (toP p a)) (isq (sqsL r (toP p a)), upq (sqsH r (toP p a))), -lowT mu (minusP (arX (toP p a))) (sqsL r (toP p a), sqsH r (toP p a)) (isq (sqsL r (toP p a)), upq (sqsH r (toP p a))),
      lowT mu (arY (toP p a)) (sqsL r (toP p a), sqsH r (toP p a)) (isq (sqsL r (toP p a)), upq (sqsH r (toP p a))), -lowT mu (minusP (arY (toP p a))) (sqsL r (toP p a), sqsH r (toP p a)) (isq (sqsL r (toP p a)), upq (sqsH r (toP p a)))) := by
  have ho := toP_ord hp1 hp2 ha
  have hq := sqs_bd r0 r1 ho
  have hd := dist_bd r0 r1 ho
  have hq' : Pos 1152921504606846976 (sqsL r (toP p a), sqsH r (toP p a)) := ⟨hq.1, hq.2.1, by have := hq.2.2; omega⟩
  unfold pullP
  rw [sqP_val ho, distP_val r0 r1 ho, towardP_val mu0 mu1 (ho.1.mono (by omega)) hq' hd, towardP_val mu0 mu1 (ho.2.mono (by omega)) hq' hd]
  rfl
theorem pull_sub {mu r : Int} {p : Sp} {a b : Ar} (mu0 : 0 ≤ mu) (mu1 : mu ≤ 1125899906842624) (r0 : 0 ≤ r) (r1 : r ≤ 1048576) (hp1 : -33554432 ≤ p.1 ∧ p.1 ≤ 33554432) (hp2 : -33554432 ≤ p.2 ∧ p.2 ≤ 33554432) (ha : OrdA 33554432 a) (hb : OrdA 33554432 b) (h : SubA a b) :
    SubA (pullP mu r p a) (pullP mu r p b) := by
  rw [pullP_val mu0 mu1 r0 r1 hp1 hp2 ha, pullP_val mu0 mu1 r0 r1 hp1 hp2 hb]
  have hoa := toP_ord hp1 hp2 ha
  have hob := toP_ord hp1 hp2 hb
  have ht := toP_sub hp1 hp2 ha hb h
  have hqa := sqs_bd r0 r1 hoa
  have hqb := sqs_bd r0 r1 hob
  have hda := dist_bd r0 r1 hoa
  have hdb := dist_bd r0 r1 hob
  have hs := sqs_sub (r := r) ht
  have hq : Sub (sqsL r (toP p a), sqsH r (toP p a)) (sqsL r (toP p b), sqsH r (toP p b)) := ⟨hs.1, hqa.2.1, hs.2⟩
  obtain ⟨qa0, qa1, qa2⟩ := hqa
  obtain ⟨qb0, qb1, qb2⟩ := hqb
  simp only at qa0 qa1 qa2 qb0 qb1 qb2
  have hd : Sub (isq (sqsL r (toP p a)), upq (sqsH r (toP p a))) (isq (sqsL r (toP p b)), upq (sqsH r (toP p b))) :=
    ⟨isq_mono (by omega) hs.1 (by omega), hda.2.1, upq_mono (by omega) hs.2 (by omega)⟩
  have l1 := lowT_mono mu0 ht.1 (by simp only; omega) hq hdb.1 hd
  have l2 := lowT_mono mu0 ht.1.neg (by simp only; omega) hq hdb.1 hd
  have l3 := lowT_mono mu0 ht.2 (by simp only; omega) hq hdb.1 hd
  have l4 := lowT_mono mu0 ht.2.neg (by simp only; omega) hq hdb.1 hd
  have o1 := lowT_ord (q := (sqsL r (toP p a), sqsH r (toP p a))) (r := (isq (sqsL r (toP p a)), upq (sqsH r (toP p a)))) mu0 hoa.1.2.1 qa0 qa1 hda.1
  have o2 := lowT_ord (q := (sqsL r (toP p a), sqsH r (toP p a))) (r := (isq (sqsL r (toP p a)), upq (sqsH r (toP p a)))) mu0 hoa.2.2.1 qa0 qa1 hda.1
  refine ⟨⟨l1, ?_, ?_⟩, l3, ?_, ?_⟩
  · exact o1
  · show -lowT _ _ _ _ ≤ -lowT _ _ _ _; omega
  · exact o2
  · show -lowT _ _ _ _ ≤ -lowT _ _ _ _; omega
end Go.Proofs.Ytbcgdhldkanecaa
