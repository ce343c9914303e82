/- Several texts in one. -/
import Derived.Test.YtbcgdhldkanecaaGreatForceP
import Derived.Test.YtbcgdhldkanecaaGreatGrow
/- Plain facts of pulls: what they are where all is valid, that they are less for less, and mirrored. No program. -/
namespace Go.Proofs.YtbcgdhldkanecaaGreat
set_option linter.unusedVariables false
set_option linter.unusedSimpArgs false
open Go.RowKit

/-- brought between -m and m -/
def cl (m z : Int) : Int := min (max z (-m)) m
theorem cl_mono {m a b : Int} (h : a ≤ b) : cl m a ≤ cl m b := by unfold cl; omega
theorem cl_neg {m a : Int} (m0 : 0 ≤ m) : cl m (-a) = -cl m a := by unfold cl; omega
theorem cl_bd {m a : Int} (m0 : 0 ≤ m) : -m ≤ cl m a ∧ cl m a ≤ m := by unfold cl; omega
theorem cl_id {m a : Int} (h0 : -m ≤ a) (h1 : a ≤ m) : cl m a = a := by unfold cl; omega
theorem cl_min {m a b : Int} : cl m (min a b) = min (cl m a) (cl m b) := by unfold cl; omega

theorem flo_le {p c : Int} (hc : 0 < c) (n : Int) : n ≤ floQ p c ↔ n * c ≤ p := by
  rw [flo_iff _ _ _ (by omega)]
  omega
theorem flo_mono {p p' c : Int} (hc : 0 < c) (h : p ≤ p') : floQ p c ≤ floQ p' c := (flo_le hc _).2 (Int.le_trans ((flo_le hc _).1 (Int.le_refl _)) h)
theorem flo_nonneg {p c : Int} (hc : 0 < c) (h : 0 ≤ p) : 0 ≤ floQ p c := (flo_le hc _).2 (by omega)
theorem flo_neg {p c : Int} (hc : 0 < c) (h : p < 0) : floQ p c < 0 := by
  rcases Int.lt_or_le (floQ p c) 0 with h1 | h1
  · exact h1
  · have := (flo_le hc 0).1 h1; omega
theorem cei_step {p c : Int} (hc : 0 < c) : ceiQ p c ≤ floQ p c + 1 := by
  unfold ceiQ
  have h : -(floQ p c + 1) ≤ floQ (-p) c := by
    rw [flo_le hc]
    have h1 : ¬ (floQ p c + 1 ≤ floQ p c) := by omega
    rw [flo_le hc] at h1
    rw [Int.neg_mul]
    omega
  omega
theorem flo_in {p c m : Int} (hc : 0 < c) (m0 : 0 ≤ m) (p0 : -m ≤ p) (p1 : p ≤ m) : -m ≤ floQ p c ∧ floQ p c ≤ m := by
  refine ⟨(flo_le hc _).2 ?_, ?_⟩
  · have := Int.mul_le_mul_of_nonneg_left (show 1 ≤ c by omega) m0
    rw [Int.neg_mul]; omega
  · rcases Int.lt_or_le m (floQ p c) with h | h
    · have h1 := (flo_le (p := p) hc (m + 1)).1 (by omega)
      have h2 := Int.mul_le_mul_of_nonneg_left (show 1 ≤ c by omega) (show 0 ≤ m + 1 by omega)
      omega
    · exact h

theorem mdP_val {mu n d : Int} (mu0 : 0 ≤ mu) (mu1 : mu ≤ 1125899906842624) (n0 : -1152921504606846976 ≤ n) (n1 : n ≤ 1152921504606846976) (d0 : 0 < d) (d1 : d ≤ 1152921504606846976) :
    mdP mu n d = (cl 1152921504606846976 (floQ (mu * n) d), cl 1152921504606846976 (ceiQ (mu * n) d)) := by
  have hm : mulDivE mu n d = mdE (mu * n) d := by
    unfold mulDivE
    rw [if_pos ⟨(fits_iff _).2 (by omega), (fits_iff _).2 (by omega), (fits_iff _).2 (by omega), by omega⟩]
  unfold mdP
  rw [hm]
  have h1 := cei_flo (p := mu * n) (c := d) (by omega)
  have h2 := cei_step (p := mu * n) d0
  unfold mdE
  split
  · rename_i h
    rw [if_pos rfl, cl_id (by omega) (by omega), cl_id (by omega) (by omega)]
  · rename_i h
    rw [if_neg (by simp)]
    split
    · rename_i hn
      have hp : mu * n ≤ 0 := Int.mul_nonpos_of_nonneg_of_nonpos mu0 (by omega)
      have h3 : ceiQ (mu * n) d ≤ 0 := by
        have := flo_nonneg (p := -(mu * n)) d0 (by omega)
        unfold ceiQ; omega
      unfold cl
      congr 1 <;> omega
    · rename_i hn
      have hp : 0 ≤ mu * n := Int.mul_nonneg mu0 (by omega)
      have h3 := flo_nonneg d0 hp
      unfold cl
      congr 1 <;> omega

theorem min4_neg (a b c d : Int) : max (max (max (-a) (-b)) (-c)) (-d) = -min (min (min a b) c) d := by omega

/-- the lower end of the numbers mu x / q -/
def lowN (mu : Int) (x q : Sp) : Int := min (min (min (cl 1152921504606846976 (floQ (mu * x.1) q.1)) (cl 1152921504606846976 (floQ (mu * x.2) q.1))) (cl 1152921504606846976 (floQ (mu * x.1) q.2))) (cl 1152921504606846976 (floQ (mu * x.2) q.2))
def lowT (mu : Int) (x q r : Sp) : Int := cl 1048576 (min (floQ (lowN mu x q) r.1) (floQ (lowN mu x q) r.2))
/-- a span of numbers up to 2^60 whose ends lie in order -/
def Ord (m : Int) (x : Sp) : Prop := -m ≤ x.1 ∧ x.1 ≤ x.2 ∧ x.2 ≤ m
def Pos (m : Int) (x : Sp) : Prop := 0 < x.1 ∧ x.1 ≤ x.2 ∧ x.2 ≤ m
theorem Ord.neg {m : Int} {x : Sp} (h : Ord m x) : Ord m (minusP x) := by unfold Ord minusP at *; simp only; omega
theorem Ord.mono {m m' : Int} {x : Sp} (h : Ord m x) (hm : m ≤ m') : Ord m' x := by unfold Ord at *; omega
theorem Ord.check {x : Sp} (h : Ord 1152921504606846976 x) : checkE x.1 x.2 = 0 := check_ok h.1 h.2.1 h.2.2
theorem Pos.check {x : Sp} (h : Pos 1152921504606846976 x) : checkE x.1 x.2 = 0 := check_ok (by have := h.1; omega) h.2.1 h.2.2
/-- one inside another -/
def Sub (x y : Sp) : Prop := y.1 ≤ x.1 ∧ x.1 ≤ x.2 ∧ x.2 ≤ y.2
def SubA (a b : Ar) : Prop := Sub (arX a) (arX b) ∧ Sub (arY a) (arY b)
theorem Sub.neg {x y : Sp} (h : Sub x y) : Sub (minusP x) (minusP y) := by unfold Sub minusP at *; simp only; omega

theorem flo_clmul {mu x y a b : Int} {q r : Int} (mu0 : 0 ≤ mu) (hxa : a ≤ x) (hxb : x ≤ b) (q0 : 0 < q) {m k : Int} (hqy : q ≤ y) (hyr : y ≤ r)
    (h1 : k ≤ cl m (floQ (mu * a) q)) (h3 : k ≤ cl m (floQ (mu * a) r)) : k ≤ cl m (floQ (mu * x) y) := by
  have hax : mu * a ≤ mu * x := Int.mul_le_mul_of_nonneg_left hxa mu0
  have hb : min (floQ (mu * a) q) (floQ (mu * a) r) ≤ floQ (mu * x) y := by
    refine flo_between (a := mu * a) (b := mu * x) (c := q) (d := r) hax (Int.le_refl _) hqy hyr (by omega) (by omega) (by omega) ?_ ?_
    · have := flo_mono q0 hax; omega
    · have := flo_mono (show 0 < r by omega) hax; omega
  have h := cl_mono (m := m) hb
  rw [cl_min] at h
  omega
theorem lowN_le {mu : Int} {x q : Sp} (mu0 : 0 ≤ mu) (hx : x.1 ≤ x.2) (q0 : 0 < q.1) (q1 : q.1 ≤ q.2) {u v : Int} (u0 : x.1 ≤ u) (v0 : q.1 ≤ v) (v1 : v ≤ q.2) :
    lowN mu x q ≤ cl 1152921504606846976 (floQ (mu * u) v) :=
  flo_clmul mu0 u0 (Int.le_refl u) q0 v0 v1 (by unfold lowN; omega) (by unfold lowN; omega)
theorem lowN_mono {mu : Int} {x q X Q : Sp} (mu0 : 0 ≤ mu) (hx : Sub x X) (q0 : 0 < Q.1) (hq : Sub q Q) : lowN mu X Q ≤ lowN mu x q := by
  obtain ⟨x0, x1, x2⟩ := hx
  obtain ⟨h0, h1, h2⟩ := hq
  have a1 := lowN_le (x := X) (q := Q) (u := x.1) (v := q.1) mu0 (by omega) q0 (by omega) x0 h0 (by omega)
  have a2 := lowN_le (x := X) (q := Q) (u := x.2) (v := q.1) mu0 (by omega) q0 (by omega) (by omega) h0 (by omega)
  have a3 := lowN_le (x := X) (q := Q) (u := x.1) (v := q.2) mu0 (by omega) q0 (by omega) x0 (by omega) h2
  have a4 := lowN_le (x := X) (q := Q) (u := x.2) (v := q.2) mu0 (by omega) q0 (by omega) (by omega) (by omega) h2
  have e : lowN mu x q = min (min (min (cl 1152921504606846976 (floQ (mu * x.1) q.1)) (cl 1152921504606846976 (floQ (mu * x.2) q.1))) (cl 1152921504606846976 (floQ (mu * x.1) q.2))) (cl 1152921504606846976 (floQ (mu * x.2) q.2)) := rfl
  omega
theorem lowT_mono {mu : Int} {x q r X Q R : Sp} (mu0 : 0 ≤ mu) (hx : Sub x X) (q0 : 0 < Q.1) (hq : Sub q Q) (r0 : 0 < R.1) (hr : Sub r R) : lowT mu X Q R ≤ lowT mu x q r := by
  have h := lowN_mono mu0 hx q0 hq
  obtain ⟨h0, h1, h2⟩ := hr
  apply cl_mono
  have g : ∀ v, R.1 ≤ v → v ≤ R.2 → min (floQ (lowN mu X Q) R.1) (floQ (lowN mu X Q) R.2) ≤ floQ (lowN mu x q) v := fun v v0 v1 => by
    refine flo_between (a := lowN mu X Q) (b := lowN mu x q) h (Int.le_refl _) v0 v1 (by omega) (by omega) (by omega) ?_ ?_
    · have := flo_mono r0 h; omega
    · have := flo_mono (show 0 < R.2 by omega) h; omega
  have g1 := g r.1 h0 (by omega)
  have g2 := g r.2 (by omega) h2
  omega
theorem lowN_hi {mu : Int} {x q : Sp} (hx : x.1 ≤ x.2) (mu0 : 0 ≤ mu) (q0 : 0 < q.1) (q1 : q.1 ≤ q.2) : lowN mu x q ≤ -lowN mu (minusP x) q := by
  have h1 := lowN_le (x := x) (q := q) (u := x.1) (v := q.1) mu0 hx q0 q1 (by omega) (by omega) q1
  have h2 := lowN_le (x := minusP x) (q := q) (u := -x.1) (v := q.1) mu0 (by unfold minusP; simp only; omega) q0 q1 (by unfold minusP; simp only; omega) (by omega) q1
  have h3 := cei_flo (p := mu * x.1) (c := q.1) (by omega)
  have h4 : cl 1152921504606846976 (ceiQ (mu * x.1) q.1) = -cl 1152921504606846976 (floQ (mu * -x.1) q.1) := by
    unfold ceiQ
    rw [cl_neg (by omega), Int.mul_neg]
  have h5 := cl_mono (m := 1152921504606846976) h3
  omega
theorem lowN_bd {mu : Int} {x q : Sp} : -1152921504606846976 ≤ lowN mu x q ∧ lowN mu x q ≤ 1152921504606846976 := by
  unfold lowN
  have h1 := cl_bd (m := 1152921504606846976) (a := floQ (mu * x.1) q.1) (by omega)
  have h2 := cl_bd (m := 1152921504606846976) (a := floQ (mu * x.2) q.1) (by omega)
  have h3 := cl_bd (m := 1152921504606846976) (a := floQ (mu * x.1) q.2) (by omega)
  have h4 := cl_bd (m := 1152921504606846976) (a := floQ (mu * x.2) q.2) (by omega)
  omega

theorem scaledP_val {mu : Int} {x q : Sp} (mu0 : 0 ≤ mu) (mu1 : mu ≤ 1125899906842624) (hx : Ord 1152921504606846976 x) (hq : Pos 1152921504606846976 q) : scaledP mu x q = (lowN mu x q, -lowN mu (minusP x) q) := by
  obtain ⟨x0, x1, x2⟩ := hx
  obtain ⟨q0, q1, q2⟩ := hq
  unfold scaledP hullP
  rw [mdP_val mu0 mu1 (by omega) (by omega) q0 (by omega), mdP_val mu0 mu1 (by omega) (by omega) q0 (by omega), mdP_val mu0 mu1 (by omega) (by omega) (by omega) (by omega), mdP_val mu0 mu1 (by omega) (by omega) (by omega) (by omega)]
  have e : ∀ u v, cl 1152921504606846976 (ceiQ (mu * u) v) = -cl 1152921504606846976 (floQ (mu * -u) v) := fun u v => by
    unfold ceiQ
    rw [cl_neg (by omega), Int.mul_neg]
  simp only [e]
  unfold lowN minusP
  simp only
  congr 1
  omega

/-- the quotient of numbers by numbers above 0 -/
theorem quotP_val {n r : Sp} (hn : Ord 1152921504606846976 n) (hr : Pos 1152921504606846976 r) : quotP n r = (min (floQ n.1 r.1) (floQ n.1 r.2), -min (floQ (-n.2) r.1) (floQ (-n.2) r.2)) := by
  obtain ⟨n1, n2⟩ := n
  obtain ⟨r1, r2⟩ := r
  obtain ⟨a0, a1, a2⟩ := hn
  obtain ⟨c0, c1, c2⟩ := hr
  simp only at a0 a1 a2 c0 c1 c2 ⊢
  have v := valid_ok (check_ok (a := n1) (b := n2) (by omega) a1 (by omega)) (check_ok (a := r1) (b := r2) (by omega) c1 (by omega))
  have md : ∀ p c, -1152921504606846976 ≤ p → p ≤ 1152921504606846976 → 0 < c → mdE p c = (floQ p c, ceiQ p c, 0) := fun p c p0 p1 hc => by
    have h1 := flo_in hc (show (0 : Int) ≤ 1152921504606846976 by omega) p0 p1
    have h2 := flo_in (p := -p) hc (show (0 : Int) ≤ 1152921504606846976 by omega) (by omega) (by omega)
    unfold mdE ceiQ
    rw [if_pos (by omega)]
  have e1 := md n1 r1 (by omega) (by omega) c0
  have e2 := md n1 r2 (by omega) (by omega) (by omega)
  have e3 := md n2 r1 (by omega) (by omega) c0
  have e4 := md n2 r2 (by omega) (by omega) (by omega)
  have b1 := flo_in (p := n1) c0 (show (0 : Int) ≤ 1152921504606846976 by omega) (by omega) (by omega)
  have b2 := flo_in (p := -n2) c0 (show (0 : Int) ≤ 1152921504606846976 by omega) (by omega) (by omega)
  have m1 := flo_mono (c := r1) c0 a1
  have m2 := flo_mono (c := r2) (by omega) a1
  have m3 := flo_mono (c := r1) (p := -n2) (p' := -n1) c0 (by omega)
  have m4 := flo_mono (c := r2) (p := -n2) (p' := -n1) (by omega) (by omega)
  unfold quotP quotS
  simp only
  rw [if_pos v, if_neg (by omega)]
  unfold combE four
  rw [if_pos v, if_pos (by simp only [err, e1, e2, e3, e4, if_true])]
  simp only [acc, List.foldl_cons, List.foldl_nil, e1, e2, e3, e4]
  unfold ceiQ
  congr 1
  · omega
  · omega

theorem clampP_val (s : Sp) : clampP s = (cl 1048576 s.1, cl 1048576 s.2) := rfl
theorem towardP_val {mu : Int} {x q r : Sp} (mu0 : 0 ≤ mu) (mu1 : mu ≤ 1125899906842624) (hx : Ord 1152921504606846976 x) (hq : Pos 1152921504606846976 q) (hr : Pos 1152921504606846976 r) : towardP mu x q r = (lowT mu x q r, -lowT mu (minusP x) q r) := by
  unfold towardP
  have h := lowN_hi hx.2.1 mu0 hq.1 hq.2.1
  have b1 := lowN_bd (mu := mu) (x := x) (q := q)
  have b2 := lowN_bd (mu := mu) (x := minusP x) (q := q)
  rw [scaledP_val mu0 mu1 hx hq, quotP_val ⟨by simp only; omega, by simp only; omega, by simp only; omega⟩ hr, clampP_val]
  unfold lowT
  simp only [Int.neg_neg]
  rw [cl_neg (by omega)]
theorem lowT_ord {mu : Int} {x q r : Sp} (mu0 : 0 ≤ mu) (hx : x.1 ≤ x.2) (q0 : 0 < q.1) (q1 : q.1 ≤ q.2) (r0 : 0 < r.1) : lowT mu x q r ≤ -lowT mu (minusP x) q r := by
  have h := lowN_hi hx mu0 q0 q1
  unfold lowT
  rw [← cl_neg (by omega)]
  apply cl_mono
  have h1 := cei_flo (p := lowN mu x q) (c := r.1) (by omega)
  have h2 := flo_mono (c := r.1) r0 (show lowN mu (minusP x) q ≤ -lowN mu x q by omega)
  unfold ceiQ at h1
  omega
theorem lowT_bd {mu : Int} {x q r : Sp} : -1048576 ≤ lowT mu x q r ∧ lowT mu x q r ≤ 1048576 := cl_bd (by omega)
end Go.Proofs.YtbcgdhldkanecaaGreat

/- Plain facts of pulls: vectors, squares, distances, pulls of valid questions; less for less. No program. -/
namespace Go.Proofs.YtbcgdhldkanecaaGreat
set_option linter.unusedVariables false
set_option linter.unusedSimpArgs false
open Go.RowKit

/-- an area whose ends lie in order, up to m -/
def OrdA (m : Int) (a : Ar) : Prop := Ord m (arX a) ∧ Ord m (arY a)
theorem toP_val {p : Sp} {a : Ar} (hp1 : -33554432 ≤ p.1 ∧ p.1 ≤ 33554432) (hp2 : -33554432 ≤ p.2 ∧ p.2 ≤ 33554432) (ha : OrdA 33554432 a) : toP p a = (p.1 - a.2.1, p.1 - a.1, p.2 - a.2.2.2, p.2 - a.2.2.1) := by
  obtain ⟨⟨x0, x1, x2⟩, y0, y1, y2⟩ := ha
  simp only [arX, arY] at x0 x1 x2 y0 y1 y2
  unfold toP mkA arX arY
  rw [subP_of (check_ok (by simp only; omega) (by simp only; omega) (by simp only; omega)) (check_ok (by simp only; omega) (by simp only; omega) (by simp only; omega)) (by simp only; omega) (by simp only; omega),
    subP_of (check_ok (by simp only; omega) (by simp only; omega) (by simp only; omega)) (check_ok (by simp only; omega) (by simp only; omega) (by simp only; omega)) (by simp only; omega) (by simp only; omega)]
theorem toP_ord {p : Sp} {a : Ar} (hp1 : -33554432 ≤ p.1 ∧ p.1 ≤ 33554432) (hp2 : -33554432 ≤ p.2 ∧ p.2 ≤ 33554432) (ha : OrdA 33554432 a) : OrdA 67108864 (toP p a) := by
  rw [toP_val hp1 hp2 ha]
  obtain ⟨⟨x0, x1, x2⟩, y0, y1, y2⟩ := ha
  simp only [arX, arY] at x0 x1 x2 y0 y1 y2
  unfold OrdA Ord arX arY
  simp only
  omega
theorem toP_sub {p : Sp} {a b : Ar} (hp1 : -33554432 ≤ p.1 ∧ p.1 ≤ 33554432) (hp2 : -33554432 ≤ p.2 ∧ p.2 ≤ 33554432) (ha : OrdA 33554432 a) (hb : OrdA 33554432 b) (h : SubA a b) : SubA (toP p a) (toP p b) := by
  rw [toP_val hp1 hp2 ha, toP_val hp1 hp2 hb]
  obtain ⟨⟨x0, x1, x2⟩, y0, y1, y2⟩ := h
  simp only [arX, arY] at x0 x1 x2 y0 y1 y2
  unfold SubA Sub arX arY
  simp only
  omega

/-- the least and the greatest size of the numbers of a span -/
def lsz (x : Sp) : Int := max (max 0 x.1) (-x.2)
def gsz (x : Sp) : Int := max (-x.1) x.2
theorem squareP_val {x : Sp} (h : Ord 67108864 x) : squareP x = (lsz x * lsz x, gsz x * gsz x) ∧ (0 ≤ lsz x * lsz x ∧ lsz x * lsz x ≤ gsz x * gsz x) ∧ gsz x * gsz x ≤ 4503599627370496 := by
  have hc := (h.mono (m' := 1152921504606846976) (by omega)).check
  obtain ⟨h0, h1, h2⟩ := h
  have b0 : 0 ≤ lsz x := by unfold lsz; omega
  have b1 : lsz x ≤ gsz x := by unfold lsz gsz; omega
  have b2 : gsz x ≤ 67108864 := by unfold gsz; omega
  have m0 : 0 ≤ lsz x * lsz x := Int.mul_nonneg b0 b0
  have m1 : lsz x * lsz x ≤ gsz x * gsz x := sq_mono b0 b1
  have m2 : gsz x * gsz x ≤ 4503599627370496 := by have := sq_mono (a := gsz x) (by omega) b2; omega
  refine ⟨?_, ⟨m0, m1⟩, m2⟩
  unfold squareP squareS
  rw [if_pos hc, if_neg (by unfold gsz at b2; omega)]
  unfold endsS
  rw [if_pos ⟨(fits_iff _).2 (by unfold lsz gsz at *; omega), (fits_iff _).2 (by unfold lsz gsz at *; omega)⟩]
  rfl
def sqsL (r : Int) (v : Ar) : Int := max (lsz (arX v) * lsz (arX v) + lsz (arY v) * lsz (arY v)) (edgeV r)
def sqsH (r : Int) (v : Ar) : Int := max (gsz (arX v) * gsz (arX v) + gsz (arY v) * gsz (arY v)) (edgeV r)
theorem edge_bd {r : Int} (r0 : 0 ≤ r) (r1 : r ≤ 1048576) : 1 ≤ edgeV r ∧ edgeV r ≤ 1099511627776 := by
  have := sq_mono r0 r1
  unfold edgeV; omega
theorem sqP_val {r : Int} {v : Ar} (hv : OrdA 67108864 v) : sqP r v = (sqsL r v, sqsH r v) := by
  obtain ⟨e1, ⟨a0, a1⟩, a2⟩ := squareP_val hv.1
  obtain ⟨e2, ⟨b0, b1⟩, b2⟩ := squareP_val hv.2
  unfold sqP
  rw [e1, e2, addP_of (check_ok (by simp only; omega) (by simp only; omega) (by simp only; omega)) (check_ok (by simp only; omega) (by simp only; omega) (by simp only; omega)) (by simp only; omega) (by simp only; omega)]
  rfl
theorem sqs_bd {r : Int} {v : Ar} (r0 : 0 ≤ r) (r1 : r ≤ 1048576) (hv : OrdA 67108864 v) : Pos 9007199254740992 (sqsL r v, sqsH r v) := by
  obtain ⟨_, ⟨a0, a1⟩, a2⟩ := squareP_val hv.1
  obtain ⟨_, ⟨b0, b1⟩, b2⟩ := squareP_val hv.2
  obtain ⟨c0, c1⟩ := edge_bd r0 r1
  unfold Pos sqsL sqsH
  simp only
  omega
theorem lsz_mono {x y : Sp} (h : Sub x y) : lsz y ≤ lsz x ∧ gsz x ≤ gsz y ∧ 0 ≤ lsz y ∧ 0 ≤ gsz x := by
  obtain ⟨h0, h1, h2⟩ := h
  unfold lsz gsz; omega
theorem sqs_sub {r : Int} {u v : Ar} (h : SubA u v) : sqsL r v ≤ sqsL r u ∧ sqsH r u ≤ sqsH r v := by
  obtain ⟨a1, a2, a3, a4⟩ := lsz_mono h.1
  obtain ⟨b1, b2, b3, b4⟩ := lsz_mono h.2
  have m1 := sq_mono a3 a1
  have m2 := sq_mono b3 b1
  have m3 := sq_mono a4 a2
  have m4 := sq_mono b4 b2
  unfold sqsL sqsH
  omega
theorem distP_val {r : Int} {v : Ar} (r0 : 0 ≤ r) (r1 : r ≤ 1048576) (hv : OrdA 67108864 v) : distP r v = (isq (sqsL r v), upq (sqsH r v)) := by
  have hb := sqs_bd r0 r1 hv
  unfold distP
  rw [sqP_val hv]
  unfold rootsP rootsS
  obtain ⟨h0, h1, h2⟩ := hb
  simp only at h0 h1 h2 ⊢
  rw [if_pos (check_ok (by omega) h1 (by omega)), if_neg (by omega)]
  rfl
theorem isq_pos {x : Int} (h : 1 ≤ x) (h1 : x < 18446744073709551616) : 1 ≤ isq x := by
  obtain ⟨a0, a1, a2⟩ := isq_spec x (by omega) h1
  rcases Int.lt_or_le (isq x) 1 with h2 | h2
  · have e : isq x = 0 := by omega
    rw [e] at a2; omega
  · exact h2
theorem isq_le {x : Int} (h : 0 ≤ x) (h1 : x < 18446744073709551616) : isq x ≤ x := by
  obtain ⟨a0, a1, a2⟩ := isq_spec x h h1
  rcases Int.lt_or_le x (isq x) with h2 | h2
  · have h3 : 1 ≤ isq x := by omega
    have := Int.mul_le_mul_of_nonneg_left h3 a0
    omega
  · exact h2
theorem dist_bd {r : Int} {v : Ar} (r0 : 0 ≤ r) (r1 : r ≤ 1048576) (hv : OrdA 67108864 v) : Pos 1152921504606846976 (isq (sqsL r v), upq (sqsH r v)) := by
  obtain ⟨h0, h1, h2⟩ := sqs_bd r0 r1 hv
  simp only at h0 h1 h2
  have i1 := isq_pos (x := sqsL r v) (by omega) (by omega)
  have i2 := isq_mono (x := sqsL r v) (y := sqsH r v) (by omega) h1 (by omega)
  have i3 := upq_spec (x := sqsH r v) (by omega) (by omega)
  have i4 := isq_le (x := sqsH r v) (by omega) (by omega)
  have i5 : upq (sqsH r v) ≤ isq (sqsH r v) + 1 := by unfold upq; split <;> omega
  unfold Pos
  simp only
  omega
/-- the pull of a body, all valid -/
theorem pullP_val {mu r : Int} {p : Sp} {a : Ar} (mu0 : 0 ≤ mu) (mu1 : mu ≤ 1125899906842624) (r0 : 0 ≤ r) (r1 : r ≤ 1048576) (hp1 : -33554432 ≤ p.1 ∧ p.1 ≤ 33554432) (hp2 : -33554432 ≤ p.2 ∧ p.2 ≤ 33554432) (ha : OrdA 33554432 a) :
    pullP mu r p a = (lowT mu (arX (toP p a)) (sqsL r (toP p a), sqsH r (toP p a)) (isq (sqsL r (toP p a)), upq (sqsH r (toP p a))), -lowT mu (minusP (arX (toP p a))) (sqsL r (toP p a), sqsH r (toP p a)) (isq (sqsL r (toP p a)), upq (sqsH r (toP p a))),
      lowT mu (arY (toP p a)) (sqsL r (toP p a), sqsH r (toP p a)) (isq (sqsL r (toP p a)), upq (sqsH r (toP p a))), -lowT mu (minusP (arY (toP p a))) (sqsL r (toP p a), sqsH r (toP p a)) (isq (sqsL r (toP p a)), upq (sqsH r (toP p a)))) := by
  have ho := toP_ord hp1 hp2 ha
  have hq := sqs_bd r0 r1 ho
  have hd := dist_bd r0 r1 ho
  have hq' : Pos 1152921504606846976 (sqsL r (toP p a), sqsH r (toP p a)) := ⟨hq.1, hq.2.1, by have := hq.2.2; omega⟩
  unfold pullP
  rw [sqP_val ho, distP_val r0 r1 ho, towardP_val mu0 mu1 (ho.1.mono (by omega)) hq' hd, towardP_val mu0 mu1 (ho.2.mono (by omega)) hq' hd]
  rfl
theorem pull_sub {mu r : Int} {p : Sp} {a b : Ar} (mu0 : 0 ≤ mu) (mu1 : mu ≤ 1125899906842624) (r0 : 0 ≤ r) (r1 : r ≤ 1048576) (hp1 : -33554432 ≤ p.1 ∧ p.1 ≤ 33554432) (hp2 : -33554432 ≤ p.2 ∧ p.2 ≤ 33554432) (ha : OrdA 33554432 a) (hb : OrdA 33554432 b) (h : SubA a b) :
    SubA (pullP mu r p a) (pullP mu r p b) := by
  rw [pullP_val mu0 mu1 r0 r1 hp1 hp2 ha, pullP_val mu0 mu1 r0 r1 hp1 hp2 hb]
  have hoa := toP_ord hp1 hp2 ha
  have hob := toP_ord hp1 hp2 hb
  have ht := toP_sub hp1 hp2 ha hb h
  have hqa := sqs_bd r0 r1 hoa
  have hqb := sqs_bd r0 r1 hob
  have hda := dist_bd r0 r1 hoa
  have hdb := dist_bd r0 r1 hob
  have hs := sqs_sub (r := r) ht
  have hq : Sub (sqsL r (toP p a), sqsH r (toP p a)) (sqsL r (toP p b), sqsH r (toP p b)) := ⟨hs.1, hqa.2.1, hs.2⟩
  obtain ⟨qa0, qa1, qa2⟩ := hqa
  obtain ⟨qb0, qb1, qb2⟩ := hqb
  simp only at qa0 qa1 qa2 qb0 qb1 qb2
  have hd : Sub (isq (sqsL r (toP p a)), upq (sqsH r (toP p a))) (isq (sqsL r (toP p b)), upq (sqsH r (toP p b))) :=
    ⟨isq_mono (by omega) hs.1 (by omega), hda.2.1, upq_mono (by omega) hs.2 (by omega)⟩
  have l1 := lowT_mono mu0 ht.1 (by simp only; omega) hq hdb.1 hd
  have l2 := lowT_mono mu0 ht.1.neg (by simp only; omega) hq hdb.1 hd
  have l3 := lowT_mono mu0 ht.2 (by simp only; omega) hq hdb.1 hd
  have l4 := lowT_mono mu0 ht.2.neg (by simp only; omega) hq hdb.1 hd
  have o1 := lowT_ord (q := (sqsL r (toP p a), sqsH r (toP p a))) (r := (isq (sqsL r (toP p a)), upq (sqsH r (toP p a)))) mu0 hoa.1.2.1 qa0 qa1 hda.1
  have o2 := lowT_ord (q := (sqsL r (toP p a), sqsH r (toP p a))) (r := (isq (sqsL r (toP p a)), upq (sqsH r (toP p a)))) mu0 hoa.2.2.1 qa0 qa1 hda.1
  refine ⟨⟨l1, ?_, ?_⟩, l3, ?_, ?_⟩
  · exact o1
  · show -lowT _ _ _ _ ≤ -lowT _ _ _ _; omega
  · exact o2
  · show -lowT _ _ _ _ ≤ -lowT _ _ _ _; omega

/-- whether n is at most mu d / (the root of q)^3, by squares -/
def atMostB (n mu d q : Int) : Bool :=
  if n ≤ 0 ∧ 0 ≤ d then true else if 0 < n ∧ d ≤ 0 then false else if 0 < n then decide (n * n * q * q * q ≤ mu * mu * d * d) else decide (mu * mu * d * d ≤ n * n * q * q * q)
def inP (p : Int × Int) (q : Int × Int) : Bool := (decide (p.1 ≤ p.2) && decide (q.1 ≤ p.1)) && decide (p.2 ≤ q.2)

theorem exact_low {mu d s : Int} (mu0 : 0 ≤ mu) (mu1 : mu ≤ 10000) (d0 : -30 ≤ d) (d1 : d ≤ 30) (s0 : 1 ≤ s) (s1 : s ≤ 1800) :
    ∃ n, lowT mu (d, d) (s, s) (isq s, upq s) = n ∧ (-300000 ≤ n ∧ n ≤ 300000) ∧ atMostB n mu d s = true ∧ n * n * s * s * s ≤ 1000000000000 := by
  obtain ⟨p0, p1⟩ := mul_bd (x := mu) (y := d) (B := 10000) (C := 30) (by omega) (by omega) (by omega) (by omega)
  obtain ⟨P, hP⟩ : ∃ P, mu * d = P := ⟨_, rfl⟩
  have hPP : mu * mu * d * d = P * P := by rw [← hP]; grind
  obtain ⟨a0, a1, a2⟩ := isq_spec s (by omega) (by omega)
  obtain ⟨b0, b1, b2, _⟩ := upq_spec (x := s) (by omega) (by omega)
  have i1 := isq_pos (x := s) s0 (by omega)
  obtain ⟨rl, hrl⟩ : ∃ r, isq s = r := ⟨_, rfl⟩
  obtain ⟨rh, hrh⟩ : ∃ r, upq s = r := ⟨_, rfl⟩
  rw [hrl, hrh] at b1
  rw [hrl] at a0 a1 a2 i1
  rw [hrh] at b0 b2
  have rl42 : rl ≤ 42 := by
    rcases Int.lt_or_le 42 rl with h | h
    · have := Int.mul_le_mul (show 43 ≤ rl by omega) (show 43 ≤ rl by omega) (by omega) (by omega); omega
    · exact h
  obtain ⟨N, hN⟩ : ∃ N, floQ P s = N := ⟨_, rfl⟩
  have n1 : N * s ≤ P := (flo_le (by omega) _).1 (by rw [hN]; exact Int.le_refl _)
  have n2 : P < (N + 1) * s := by
    have := mt (flo_le (p := P) (c := s) (by omega) (N + 1)).2 (by rw [hN]; omega)
    omega
  have n3 := flo_in (p := P) (c := s) (m := 300000) (by omega) (by omega) (by omega) (by omega)
  rw [hN] at n3
  have hlow : lowN mu (d, d) (s, s) = N := by
    unfold lowN
    simp only [hP, hN]
    rw [cl_id (by omega) (by omega)]
    omega
  have f1 := flo_in (p := N) (c := rl) (m := 300000) (by omega) (by omega) (by omega) (by omega)
  have f2 := flo_in (p := N) (c := rh) (m := 300000) (by omega) (by omega) (by omega) (by omega)
  obtain ⟨n, hn⟩ : ∃ n, min (floQ N rl) (floQ N rh) = n := ⟨_, rfl⟩
  have g1 : n * rl ≤ N := (flo_le (by omega) _).1 (by omega)
  have g2 : n * rh ≤ N := (flo_le (by omega) _).1 (by omega)
  have hT : lowT mu (d, d) (s, s) (isq s, upq s) = n := by
    unfold lowT
    simp only [hlow, hrl, hrh]
    rw [hn, cl_id (by omega) (by omega)]
  refine ⟨n, hT, by omega, ?_, ?_⟩
  · unfold atMostB
    rw [hPP]
    by_cases c1 : n ≤ 0 ∧ 0 ≤ d
    · rw [if_pos c1]
    · rw [if_neg c1]
      by_cases c2 : 0 < n ∧ d ≤ 0
      · exfalso
        have hp : P ≤ 0 := by rw [← hP]; exact Int.mul_nonpos_of_nonneg_of_nonpos mu0 c2.2
        have hNn : N ≤ 0 := by
          rcases Int.lt_or_le 0 N with h | h
          · have := Int.mul_le_mul (show 1 ≤ N by omega) s0 (by omega) (by omega); omega
          · exact h
        have := Int.mul_le_mul (show 1 ≤ n by omega) i1 (by omega) (by omega)
        omega
      · rw [if_neg c2]
        by_cases c3 : 0 < n
        · rw [if_pos c3, decide_eq_true_eq]
          have h1 : n * rh * s ≤ N * s := Int.mul_le_mul_of_nonneg_right g2 (by omega)
          have h0 : 0 ≤ n * rh * s := Int.mul_nonneg (Int.mul_nonneg (by omega) b0) (by omega)
          have h2 := sq_mono h0 (Int.le_trans h1 n1)
          have h3 : n * n * s * s * s ≤ n * n * s * s * (rh * rh) := Int.mul_le_mul_of_nonneg_left b2 (by
            have := mul_self_nonneg (n * s)
            have e : n * s * (n * s) = n * n * s * s := by grind
            omega)
          have e : n * n * s * s * (rh * rh) = n * rh * s * (n * rh * s) := by grind
          omega
        · rw [if_neg c3, decide_eq_true_eq]
          have h1 : n * rl * s ≤ N * s := Int.mul_le_mul_of_nonneg_right g1 (by omega)
          have hp : P ≤ 0 := by rw [← hP]; exact Int.mul_nonpos_of_nonneg_of_nonpos mu0 (by omega)
          have h2 := sq_mono (a := -P) (b := -(n * rl * s)) (by omega) (by omega)
          rw [Int.neg_mul_neg, Int.neg_mul_neg] at h2
          have h3 : n * n * s * s * (rl * rl) ≤ n * n * s * s * s := Int.mul_le_mul_of_nonneg_left a1 (by
            have := mul_self_nonneg (n * s)
            have e : n * s * (n * s) = n * n * s * s := by grind
            omega)
          have e : n * n * s * s * (rl * rl) = n * rl * s * (n * rl * s) := by grind
          omega
  · have hs4 : s ≤ 4 * (rl * rl) := by
      have := sq_mono (a := rl + 1) (b := 2 * rl) (by omega) (by omega)
      have e : 2 * rl * (2 * rl) = 4 * (rl * rl) := by grind
      omega
    have h3 : n * n * s * s * s ≤ n * n * s * s * (4 * (rl * rl)) := Int.mul_le_mul_of_nonneg_left hs4 (by
      have := mul_self_nonneg (n * s)
      have e : n * s * (n * s) = n * n * s * s := by grind
      omega)
    have e : n * n * s * s * (4 * (rl * rl)) = 4 * (n * rl * s * (n * rl * s)) := by grind
    have hb : -380000 ≤ n * rl * s ∧ n * rl * s ≤ 380000 := by
      have rh43 : rh ≤ 43 := by
        have : upq s ≤ isq s + 1 := by unfold upq; split <;> omega
        omega
      rcases Int.lt_or_le n 0 with hneg | hpos
      · have q1 : N - 43 ≤ n * rl := by
          have hcase : n = floQ N rl ∨ n = floQ N rh := by omega
          rcases hcase with hc | hc
          · have h4 := mt (flo_le (p := N) (c := rl) (by omega) (n + 1)).2 (by omega)
            have e : (n + 1) * rl = n * rl + rl := by grind
            omega
          · have h4 := mt (flo_le (p := N) (c := rh) (by omega) (n + 1)).2 (by omega)
            have e : (n + 1) * rh = n * rh + rh := by grind
            have h5 := Int.mul_le_mul_of_nonpos_left (a := n) (b := rh) (c := rl) (by omega) b1
            omega
        have q2 := Int.mul_le_mul_of_nonneg_right q1 (show 0 ≤ s by omega)
        have e1 : (N - 43) * s = N * s - 43 * s := by grind
        have e2 : (N + 1) * s = N * s + s := by grind
        have q3 : n * rl ≤ 0 := Int.mul_nonpos_of_nonpos_of_nonneg (by omega) (by omega)
        have q4 : n * rl * s ≤ 0 := Int.mul_nonpos_of_nonpos_of_nonneg q3 (by omega)
        omega
      · have q1 : 0 ≤ n * rl := Int.mul_nonneg hpos (by omega)
        have q2 : 0 ≤ n * rl * s := Int.mul_nonneg q1 (by omega)
        have q3 := Int.mul_le_mul_of_nonneg_right g1 (show 0 ≤ s by omega)
        omega
    have h5 := mul_bd (x := n * rl * s) (y := n * rl * s) (B := 380000) (C := 380000) hb.1 hb.2 hb.1 hb.2
    omega
end Go.Proofs.YtbcgdhldkanecaaGreat

