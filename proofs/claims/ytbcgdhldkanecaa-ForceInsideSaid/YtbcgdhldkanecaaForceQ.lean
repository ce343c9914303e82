/- Plain facts of pulls: what they are where all is valid, that they are less for less, and mirrored. No program. -/
import Derived.Test.YtbcgdhldkanecaaForceP
import Derived.Test.YtbcgdhldkanecaaEncq
import Derived.Test.YtbcgdhldkanecaaGrow
namespace Go.Proofs.Ytbcgdhldkanecaa
open Go.RowKit

/-- brought between -m and m -/
def cl (m z : Int) : Int := min (max z (-m)) m
theorem cl_mono {m a b : Int} (h : a ≤ b) : cl m a ≤ cl m b := by unfold cl; omega
theorem cl_neg {m a : Int} (m0 : 0 ≤ m) : cl m (-a) = -cl m a := by unfold cl; omega
theorem cl_bd {m a : Int} (m0 : 0 ≤ m) : -m ≤ cl m a ∧ cl m a ≤ m := by unfold cl; omega
theorem cl_id {m a : Int} (h0 : -m ≤ a) (h1 : a ≤ m) : cl m a = a := by unfold cl; omega
theorem cl_min {m a b : Int} : cl m (min a b) = min (cl m a) (cl m b) := by unfold cl; omega

theorem flo_le {p c : Int} (hc : 0 < c) (n : Int) : n ≤ floQ p c ↔ n * c ≤ p := by
  rw [flo_iff _ _ _ (by omega)]
  omega
theorem flo_mono {p p' c : Int} (hc : 0 < c) (h : p ≤ p') : floQ p c ≤ floQ p' c := (flo_le hc _).2 (Int.le_trans ((flo_le hc _).1 (Int.le_refl _)) h)
theorem flo_nonneg {p c : Int} (hc : 0 < c) (h : 0 ≤ p) : 0 ≤ floQ p c := (flo_le hc _).2 (by omega)
theorem flo_neg {p c : Int} (hc : 0 < c) (h : p < 0) : floQ p c < 0 := by
  rcases Int.lt_or_le (floQ p c) 0 with h1 | h1
  · exact h1
  · have := (flo_le hc 0).1 h1; omega
theorem cei_step {p c : Int} (hc : 0 < c) : ceiQ p c ≤ floQ p c + 1 := by
  unfold ceiQ
  have h : -(floQ p c + 1) ≤ floQ (-p) c := by
    rw [flo_le hc]
    have h1 : ¬ (floQ p c + 1 ≤ floQ p c) := by omega
    rw [flo_le hc] at h1
    rw [Int.neg_mul]
    omega
  omega
theorem flo_in {p c m : Int} (hc : 0 < c) (m0 : 0 ≤ m) (p0 : -m ≤ p) (p1 : p ≤ m) : -m ≤ floQ p c ∧ floQ p c ≤ m := by
  refine ⟨(flo_le hc _).2 ?_, ?_⟩
  · have := Int.mul_le_mul_of_nonneg_left (show 1 ≤ c by omega) m0
    rw [Int.neg_mul]; omega
  · rcases Int.lt_or_le m (floQ p c) with h | h
    · have h1 := (flo_le (p := p) hc (m + 1)).1 (by omega)
      have h2 := Int.mul_le_mul_of_nonneg_left (show 1 ≤ c by omega) (show 0 ≤ m + 1 by omega)
      omega
    · exact h

theorem mdP_val {mu n d : Int} (mu0 : 0 ≤ mu) (mu1 : mu ≤ 1125899906842624) (n0 : -1152921504606846976 ≤ n) (n1 : n ≤ 1152921504606846976) (d0 : 0 < d) (d1 : d ≤ 1152921504606846976) :
    mdP mu n d = (cl 1152921504606846976 (floQ (mu * n) d), cl 1152921504606846976 (ceiQ (mu * n) d)) := by
  have hm : mulDivE mu n d = mdE (mu * n) d := by
    unfold mulDivE
    rw [if_pos ⟨(fits_iff _).2 (by omega), (fits_iff _).2 (by omega), (fits_iff _).2 (by omega), by omega⟩]
  unfold mdP
  rw [hm]
  have h1 := cei_flo (p := mu * n) (c := d) (by omega)
  have h2 := cei_step (p := mu * n) d0
  unfold mdE
  split
  · rename_i h
    rw [if_pos rfl, cl_id (by omega) (by omega), cl_id (by omega) (by omega)]
  · rename_i h
    rw [if_neg (by simp)]
    split
    · rename_i hn
      have hp : mu * n ≤ 0 := Int.mul_nonpos_of_nonneg_of_nonpos mu0 (by omega)
      have h3 : ceiQ (mu * n) d ≤ 0 := by
        have := flo_nonneg (p := -(mu * n)) d0 (by omega)
        unfold ceiQ; omega
      unfold cl
      congr 1 <;> omega
    · rename_i hn
      have hp : 0 ≤ mu * n := Int.mul_nonneg mu0 (by omega)
      have h3 := flo_nonneg d0 hp
      unfold cl
      congr 1 <;> omega

theorem min4_neg (a b c d : Int) : max (max (max (-a) (-b)) (-c)) (-d) = -min (min (min a b) c) d := by omega

/-- the lower end of the numbers mu x / q -/
def lowN (mu : Int) (x q : Sp) : Int := min (min (min (cl 1152921504606846976 (floQ (mu * x.1) q.1)) (cl 1152921504606846976 (floQ (mu * x.2) q.1))) (cl 1152921504606846976 (floQ (mu * x.1) q.2))) (cl 1152921504606846976 (floQ (mu * x.2) q.2))
def lowT (mu : Int) (x q r : Sp) : Int := cl 1048576 (min (floQ (lowN mu x q) r.1) (floQ (lowN mu x q) r.2))
/-- a span of numbers up to 2^60 whose ends lie in order -/
def Ord (m : Int) (x : Sp) : Prop := -m ≤ x.1 ∧ x.1 ≤ x.2 ∧ x.2 ≤ m
def Pos (m : Int) (x : Sp) : Prop := 0 < x.1 ∧ x.1 ≤ x.2 ∧ x.2 ≤ m
theorem Ord.neg {m : Int} {x : Sp} (h : Ord m x) : Ord m (minusP x) := by unfold Ord minusP at *; simp only; omega
theorem Ord.mono {m m' : Int} {x : Sp} (h : Ord m x) (hm : m ≤ m') : Ord m' x := by unfold Ord at *; omega
theorem Ord.check {x : Sp} (h : Ord 1152921504606846976 x) : checkE x.1 x.2 = 0 := check_ok h.1 h.2.1 h.2.2
theorem Pos.check {x : Sp} (h : Pos 1152921504606846976 x) : checkE x.1 x.2 = 0 := check_ok (by have := h.1; omega) h.2.1 h.2.2
/-- one inside another -/
def Sub (x y : Sp) : Prop := y.1 ≤ x.1 ∧ x.1 ≤ x.2 ∧ x.2 ≤ y.2
def SubA (a b : Ar) : Prop := Sub (arX a) (arX b) ∧ Sub (arY a) (arY b)
theorem Sub.neg {x y : Sp} (h : Sub x y) : Sub (minusP x) (minusP y) := by unfold Sub minusP at *; simp only; omega

theorem flo_clmul {mu x y a b : Int} {q r : Int} (mu0 : 0 ≤ mu) (hxa : a ≤ x) (hxb : x ≤ b) (q0 : 0 < q) {m k : Int} (hqy : q ≤ y) (hyr : y ≤ r)
    (h1 : k ≤ cl m (floQ (mu * a) q)) (h3 : k ≤ cl m (floQ (mu * a) r)) : k ≤ cl m (floQ (mu * x) y) := by
  have hax : mu * a ≤ mu * x := Int.mul_le_mul_of_nonneg_left hxa mu0
  have hb : min (floQ (mu * a) q) (floQ (mu * a) r) ≤ floQ (mu * x) y := by
    refine flo_between (a := mu * a) (b := mu * x) (c := q) (d := r) hax (Int.le_refl _) hqy hyr (by omega) (by omega) (by omega) ?_ ?_
    · have := flo_mono q0 hax; omega
    · have := flo_mono (show 0 < r by omega) hax; omega
  have h := cl_mono (m := m) hb
  rw [cl_min] at h
  omega
theorem lowN_le {mu : Int} {x q : Sp} (mu0 : 0 ≤ mu) (hx : x.1 ≤ x.2) (q0 : 0 < q.1) (q1 : q.1 ≤ q.2) {u v : Int} (u0 : x.1 ≤ u) (v0 : q.1 ≤ v) (v1 : v ≤ q.2) :
    lowN mu x q ≤ cl 1152921504606846976 (floQ (mu * u) v) :=
  flo_clmul mu0 u0 (Int.le_refl u) q0 v0 v1 (by unfold lowN; omega) (by unfold lowN; omega)
theorem lowN_mono {mu : Int} {x q X Q : Sp} (mu0 : 0 ≤ mu) (hx : Sub x X) (q0 : 0 < Q.1) (hq : Sub q Q) : lowN mu X Q ≤ lowN mu x q := by
  obtain ⟨x0, x1, x2⟩ := hx
  obtain ⟨h0, h1, h2⟩ := hq
  have a1 := lowN_le (x := X) (q := Q) (u := x.1) (v := q.1) mu0 (by omega) q0 (by omega) x0 h0 (by omega)
  have a2 := lowN_le (x := X) (q := Q) (u := x.2) (v := q.1) mu0 (by omega) q0 (by omega) (by omega) h0 (by omega)
  have a3 := lowN_le (x := X) (q := Q) (u := x.1) (v := q.2) mu0 (by omega) q0 (by omega) x0 (by omega) h2
  have a4 := lowN_le (x := X) (q := Q) (u := x.2) (v := q.2) mu0 (by omega) q0 (by omega) (by omega) (by omega) h2
  have e : lowN mu x q = min (min (min (cl 1152921504606846976 (floQ (mu * x.1) q.1)) (cl 1152921504606846976 (floQ (mu * x.2) q.1))) (cl 1152921504606846976 (floQ (mu * x.1) q.2))) (cl 1152921504606846976 (floQ (mu * x.2) q.2)) := rfl
  omega
theorem lowT_mono {mu : Int} {x q r X Q R : Sp} (mu0 : 0 ≤ mu) (hx : Sub x X) (q0 : 0 < Q.1) (hq : Sub q Q) (r0 : 0 < R.1) (hr : Sub r R) : lowT mu X Q R ≤ lowT mu x q r := by
  have h := lowN_mono mu0 hx q0 hq
  obtain ⟨h0, h1, h2⟩ := hr
  apply cl_mono
  have g : ∀ v, R.1 ≤ v → v ≤ R.2 → min (floQ (lowN mu X Q) R.1) (floQ (lowN mu X Q) R.2) ≤ floQ (lowN mu x q) v := fun v v0 v1 => by
    refine flo_between (a := lowN mu X Q) (b := lowN mu x q) h (Int.le_refl _) v0 v1 (by omega) (by omega) (by omega) ?_ ?_
    · have := flo_mono r0 h; omega
    · have := flo_mono (show 0 < R.2 by omega) h; omega
  have g1 := g r.1 h0 (by omega)
  have g2 := g r.2 (by omega) h2
  omega
theorem lowN_hi {mu : Int} {x q : Sp} (hx : x.1 ≤ x.2) (mu0 : 0 ≤ mu) (q0 : 0 < q.1) (q1 : q.1 ≤ q.2) : lowN mu x q ≤ -lowN mu (minusP x) q := by
  have h1 := lowN_le (x := x) (q := q) (u := x.1) (v := q.1) mu0 hx q0 q1 (by omega) (by omega) q1
  have h2 := lowN_le (x := minusP x) (q := q) (u := -x.1) (v := q.1) mu0 (by unfold minusP; simp only; omega) q0 q1 (by unfold minusP; simp only; omega) (by omega) q1
  have h3 := cei_flo (p := mu * x.1) (c := q.1) (by omega)
  have h4 : cl 1152921504606846976 (ceiQ (mu * x.1) q.1) = -cl 1152921504606846976 (floQ (mu * -x.1) q.1) := by
    unfold ceiQ
    rw [cl_neg (by omega), Int.mul_neg]
  have h5 := cl_mono (m := 1152921504606846976) h3
  omega
theorem lowN_bd {mu : Int} {x q : Sp} : -1152921504606846976 ≤ lowN mu x q ∧ lowN mu x q ≤ 1152921504606846976 := by
  unfold lowN
  have h1 := cl_bd (m := 1152921504606846976) (a := floQ (mu * x.1) q.1) (by omega)
  have h2 := cl_bd (m := 1152921504606846976) (a := floQ (mu * x.2) q.1) (by omega)
  have h3 := cl_bd (m := 1152921504606846976) (a := floQ (mu * x.1) q.2) (by omega)
  have h4 := cl_bd (m := 1152921504606846976) (a := floQ (mu * x.2) q.2) (by omega)
  omega

theorem scaledP_val {mu : Int} {x q : Sp} (mu0 : 0 ≤ mu) (mu1 : mu ≤ 1125899906842624) (hx : Ord 1152921504606846976 x) (hq : Pos 1152921504606846976 q) : scaledP mu x q = (lowN mu x q, -lowN mu (minusP x) q) := by
  obtain ⟨x0, x1, x2⟩ := hx
  obtain ⟨q0, q1, q2⟩ := hq
  unfold scaledP hullP
  rw [mdP_val mu0 mu1 (by omega) (by omega) q0 (by omega), mdP_val mu0 mu1 (by omega) (by omega) q0 (by omega), mdP_val mu0 mu1 (by omega) (by omega) (by omega) (by omega), mdP_val mu0 mu1 (by omega) (by omega) (by omega) (by omega)]
  have e : ∀ u v, cl 1152921504606846976 (ceiQ (mu * u) v) = -cl 1152921504606846976 (floQ (mu * -u) v) := fun u v => by
    unfold ceiQ
    rw [cl_neg (by omega), Int.mul_neg]
  simp only [e]
  unfold lowN minusP
  simp only
  congr 1
  omega

/-- the quotient of numbers by numbers above 0 -/
theorem quotP_val {n r : Sp} (hn : Ord 1152921504606846976 n) (hr : Pos 1152921504606846976 r) : quotP n r = (min (floQ n.1 r.1) (floQ n.1 r.2), -min (floQ (-n.2) r.1) (floQ (-n.2) r.2)) := by
  obtain ⟨n1, n2⟩ := n
  obtain ⟨r1, r2⟩ := r
  obtain ⟨a0, a1, a2⟩ := hn
  obtain ⟨c0, c1, c2⟩ := hr
  simp only at a0 a1 a2 c0 c1 c2 ⊢
  have v := valid_ok (check_ok (a := n1) (b := n2) (by omega) a1 (by omega)) (check_ok (a := r1) (b := r2) (by omega) c1 (by omega))
  have md : ∀ p c, -1152921504606846976 ≤ p → p ≤ 1152921504606846976 → 0 < c → mdE p c = (floQ p c, ceiQ p c, 0) := fun p c p0 p1 hc => by
    have h1 := flo_in hc (show (0 : Int) ≤ 1152921504606846976 by omega) p0 p1
    have h2 := flo_in (p := -p) hc (show (0 : Int) ≤ 1152921504606846976 by omega) (by omega) (by omega)
    unfold mdE ceiQ
    rw [if_pos (by omega)]
  have e1 := md n1 r1 (by omega) (by omega) c0
  have e2 := md n1 r2 (by omega) (by omega) (by omega)
  have e3 := md n2 r1 (by omega) (by omega) c0
  have e4 := md n2 r2 (by omega) (by omega) (by omega)
  have b1 := flo_in (p := n1) c0 (show (0 : Int) ≤ 1152921504606846976 by omega) (by omega) (by omega)
  have b2 := flo_in (p := -n2) c0 (show (0 : Int) ≤ 1152921504606846976 by omega) (by omega) (by omega)
  have m1 := flo_mono (c := r1) c0 a1
  have m2 := flo_mono (c := r2) (by omega) a1
  have m3 := flo_mono (c := r1) (p := -n2) (p' := -n1) c0 (by omega)
  have m4 := flo_mono (c := r2) (p := -n2) (p' := -n1) (by omega) (by omega)
  unfold quotP quotS
  simp only
  rw [if_pos v, if_neg (by omega)]
  unfold combE four
  rw [if_pos v, if_pos (by simp only [err, e1, e2, e3, e4, if_true])]
  simp only [acc, List.foldl_cons, List.foldl_nil, e1, e2, e3, e4]
  unfold ceiQ
  congr 1
  · omega
  · omega

theorem clampP_val (s : Sp) : clampP s = (cl 1048576 s.1, cl 1048576 s.2) := rfl
theorem towardP_val {mu : Int} {x q r : Sp} (mu0 : 0 ≤ mu) (mu1 : mu ≤ 1125899906842624) (hx : Ord 1152921504606846976 x) (hq : Pos 1152921504606846976 q) (hr : Pos 1152921504606846976 r) : towardP mu x q r = (lowT mu x q r, -lowT mu (minusP x) q r) := by
  unfold towardP
  have h := lowN_hi hx.2.1 mu0 hq.1 hq.2.1
  have b1 := lowN_bd (mu := mu) (x := x) (q := q)
  have b2 := lowN_bd (mu := mu) (x := minusP x) (q := q)
  rw [scaledP_val mu0 mu1 hx hq, quotP_val ⟨by simp only; omega, by simp only; omega, by simp only; omega⟩ hr, clampP_val]
  unfold lowT
  simp only [Int.neg_neg]
  rw [cl_neg (by omega)]
theorem lowT_ord {mu : Int} {x q r : Sp} (mu0 : 0 ≤ mu) (hx : x.1 ≤ x.2) (q0 : 0 < q.1) (q1 : q.1 ≤ q.2) (r0 : 0 < r.1) : lowT mu x q r ≤ -lowT mu (minusP x) q r := by
  have h := lowN_hi hx mu0 q0 q1
  unfold lowT
  rw [← cl_neg (by omega)]
  apply cl_mono
  have h1 := cei_flo (p := lowN mu x q) (c := r.1) (by omega)
  have h2 := flo_mono (c := r.1) r0 (show lowN mu (minusP x) q ≤ -lowN mu x q by omega)
  unfold ceiQ at h1
  omega
theorem lowT_bd {mu : Int} {x q r : Sp} : -1048576 ≤ lowT mu x q r ∧ lowT mu x q r ≤ 1048576 := cl_bd (by omega)
end Go.Proofs.Ytbcgdhldkanecaa
