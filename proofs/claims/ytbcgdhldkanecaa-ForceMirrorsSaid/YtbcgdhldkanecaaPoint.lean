/- The statements' own helpers of layer 3: places made of numbers, what is inside what, the exact pull by squares. Conditions: sizes. -/
import Derived.Test.YtbcgdhldkanecaaRingK
import Derived.Test.YtbcgdhldkanecaaForceM
namespace Go.Proofs.Ytbcgdhldkanecaa
open Go.RowKit

theorem pointof_r {w : World} {sl : Value} (hN : Nums w sl) {B : Nat} (hB : w.heap.size ≤ B) {n : Int} (n0 : 0 ≤ n) (n1 : n ≤ 1000000) :
    RingGives 11 #[.pointer (some ⟨B, 0, none⟩), .int .i64 n] w sl B 2 (RVec (-n) n (-n) n) := fun t W hu hb t0 t1 => by
  have K := hide (fun t W hu hb t0 t1 => next_any w sl hN B t (2 * n + 1) W hu hb hB t0 t1 (by omega) (by omega))
  have HU := hide (And.intro hu hb)
  have lB := hb.lt
  clear hN hu hb
  go_enter Try.func11, Try.ntmps11
  go_wp2_with (go_at_call 42; refine (K.out _ _ (by repeat (first | exact HU.out.1 | apply Up.ext | apply Up.alloc | (refine Up.setCell ?_ (by simp; try omega) _))) (by repeat (first | exact HU.out.2 | apply Box.ext | apply Box.alloc | apply Box.two1 | (refine Box.other ?_ (by omega) _ _))) (by omega) (by omega)).mono ?_; rintro _ _ ⟨x, p, x0, x1, rfl, rfl⟩)
  rename_i x2 p2 x20 x21
  exact bodyPost_ret (v := .agg #[.int .i64 (x2 - n), .int .i64 (x - n)]) (by simp [results, Try.results11, go_sem]) rfl (RPost.mk (t' := t + 1 + 1) ⟨_, _, by omega, by omega, by omega, by omega, rfl⟩ (by omega) (by omega) (by repeat (first | with_reducible exact Up.refl _ | apply Up.ext | apply Up.alloc)))

theorem xmost_any (n mu d q : Int) (n0 : -300000 ≤ n) (n1 : n ≤ 300000) (mu0 : 0 ≤ mu) (mu1 : mu ≤ 10000) (d0 : -30 ≤ d) (d1 : d ≤ 30) (q0 : 1 ≤ q) (q1 : q ≤ 1800) (hb : n * n * q * q * q ≤ 1000000000000) (w : World) :
    Gives Try.prog 47 #[.int .i64 n, .int .i64 mu, .int .i64 d, .int .i64 q] w (.bool (atMostB n mu d q)) := by
  have a0 := mul_self_nonneg n
  have a1 := mul_bd (x := n) (y := n) (B := 300000) (C := 300000) n0 n1 n0 n1
  have b0 : 0 ≤ n * n * q := Int.mul_nonneg a0 (by omega)
  have b1 : n * n * q ≤ 90000000000 * 1800 := Int.mul_le_mul (by omega) q1 (by omega) (by omega)
  have c0 : 0 ≤ n * n * q * q := Int.mul_nonneg b0 (by omega)
  have c1 : n * n * q * q ≤ 90000000000 * 1800 * 1800 := Int.mul_le_mul b1 q1 (by omega) (by omega)
  have e0 : 0 ≤ n * n * q * q * q := Int.mul_nonneg c0 (by omega)
  have f0 : 0 ≤ mu * mu := Int.mul_nonneg mu0 mu0
  have f1 : mu * mu ≤ 10000 * 10000 := Int.mul_le_mul mu1 mu1 mu0 (by omega)
  have g1 := mul_bd (x := mu * mu) (y := d) (B := 100000000) (C := 30) (by omega) (by omega) (by omega) (by omega)
  have h1 := mul_bd (x := mu * mu * d) (y := d) (B := 3000000000) (C := 30) (by omega) (by omega) (by omega) (by omega)
  have HE : atMostB n mu d q = if n ≤ 0 ∧ 0 ≤ d then true else if 0 < n ∧ d ≤ 0 then false else if 0 < n then decide (n * n * q * q * q ≤ mu * mu * d * d) else decide (mu * mu * d * d ≤ n * n * q * q * q) := rfl
  rw [HE]
  clear HE
  generalize hA : n * n = A at *
  generalize hB : A * q = B at *
  generalize hC : B * q = C at *
  generalize hD : C * q = D at *
  generalize hM : mu * mu = M at *
  generalize hMd : M * d = Md at *
  generalize hMdd : Md * d = Mdd at *
  have HX := hide (And.intro hA (And.intro hB (And.intro hC (And.intro hD (And.intro hM (And.intro hMd hMdd))))))
  (unfold Gives; go_enter Try.func47, Try.ntmps47)
  go_wp2
  all_goals (go_ret; refine ⟨ret_bool ?_, (by repeat (first | with_reducible exact Up.refl _ | with_reducible apply Up.plus | apply Up.ext | apply Up.alloc | apply Up.drew | (refine Up.setCell ?_ (by simp; try omega) _)))⟩)
  all_goals clear HX
  all_goals first
    | rfl
    | (rw [show decide (0 ≤ d) = false by simp; omega]; rfl)
    | (rw [show decide (n ≤ 0) = false by simp; omega]; rfl)
    | (rw [show decide (n ≤ 0) = false by simp; omega, show decide (d ≤ 0) = false by simp; omega]; rfl)
    | grind

set_option maxRecDepth 100000 in
theorem xencl_any {n1 n2 mu d q : Int} (h1 : -300000 ≤ n1 ∧ n1 ≤ 300000) (h2 : -300000 ≤ n2 ∧ n2 ≤ 300000) (mu0 : 0 ≤ mu) (mu1 : mu ≤ 10000) (d0 : -30 ≤ d) (d1 : d ≤ 30) (q0 : 1 ≤ q) (q1 : q ≤ 1800) (hb1 : n1 * n1 * q * q * q ≤ 1000000000000) (hb2 : n2 * n2 * q * q * q ≤ 1000000000000)
    (e1 : atMostB n1 mu d q = true) (e2 : atMostB n2 mu (-d) q = true) (w : World) : Gives Try.prog 17 #[.agg #[.int .i64 n1, .int .i64 (-n2)], .int .i64 mu, .int .i64 d, .int .i64 q] w (.bool true) := by
  have K1 := hide (fun W => xmost_any n1 mu d q h1.1 h1.2 mu0 mu1 d0 d1 q0 q1 hb1 W)
  have K2 := hide (fun W => xmost_any n2 mu (-d) q h2.1 h2.2 mu0 mu1 (by omega) (by omega) q0 q1 hb2 W)
  rw [e1] at K1
  rw [e2] at K2
  obtain ⟨m, hm⟩ : ∃ m, -n2 = m := ⟨_, rfl⟩
  obtain rfl : n2 = -m := by omega
  rw [hm]
  clear e1 e2 hb1 hb2 hm
  (unfold Gives; go_enter Try.func17, Try.ntmps17)
  go_wp2_with (first | (go_at_call 47; (with_reducible refine (K1.out _).mono ?_); intro _) | (go_at_call 47; (with_reducible refine (K2.out _).mono ?_); intro _))
  go_ret
  exact ⟨rfl, (by repeat (first | with_reducible exact Up.refl _ | with_reducible apply Up.plus | apply Up.ext | apply Up.alloc | apply Up.drew | (refine Up.setCell ?_ (by simp; try omega) _)))⟩

theorem xinside_any (a b c d : Int) (w : World) : Gives Try.prog 46 #[.agg #[.int .i64 a, .int .i64 b], .agg #[.int .i64 c, .int .i64 d]] w (.bool (inP (a, b) (c, d))) := by
  (unfold Gives; go_enter Try.func46, Try.ntmps46)
  go_wp2
  all_goals (go_ret; refine ⟨ret_bool ?_, (by repeat (first | with_reducible exact Up.refl _ | with_reducible apply Up.plus | apply Up.ext | apply Up.alloc | apply Up.drew | (refine Up.setCell ?_ (by simp; try omega) _)))⟩)
  all_goals (unfold inP; first | rfl | (simp; omega) | (simp_all; done) | grind)
set_option maxRecDepth 100000 in
theorem xinsidea_any (a b : Ar) (w : World) : Gives Try.prog 16 #[.agg #[.int .i64 a.1, .int .i64 a.2.1, .int .i64 a.2.2.1, .int .i64 a.2.2.2], .agg #[.int .i64 b.1, .int .i64 b.2.1, .int .i64 b.2.2.1, .int .i64 b.2.2.2]] w (.bool (inP (arX a) (arX b) && inP (arY a) (arY b))) := by
  obtain ⟨a1, a2, a3, a4⟩ := a
  obtain ⟨b1, b2, b3, b4⟩ := b
  have K1 := hide (fun W => xinside_any a1 a2 b1 b2 W)
  have K2 := hide (fun W => xinside_any a3 a4 b3 b4 W)
  unfold arX arY
  generalize inP (a1, a2) (b1, b2) = x at *
  generalize inP (a3, a4) (b3, b4) = y at *
  cases x <;> cases y <;> (
    (unfold Gives; go_enter Try.func16, Try.ntmps16)
    go_wp2_with (first | (go_at_call 46; (with_reducible refine (K1.out _).mono ?_); intro _) | (go_at_call 46; (with_reducible refine (K2.out _).mono ?_); intro _))
    go_ret
    exact ⟨rfl, (by repeat (first | with_reducible exact Up.refl _ | with_reducible apply Up.plus | apply Up.ext | apply Up.alloc | apply Up.drew | (refine Up.setCell ?_ (by simp; try omega) _)))⟩)
theorem sub_in {x y : Sp} (h : Sub x y) : inP x y = true := by
  obtain ⟨h0, h1, h2⟩ := h
  simp [inP, h0, h1, h2]
end Go.Proofs.Ytbcgdhldkanecaa
