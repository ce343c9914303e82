/- SpanEncloses returns true for every input: sums, differences, products and quotients of numbers of two spans lie in the results, and the ends of sums, products and squares are reached. No conditions. -/
import Derived.Test.YtfpdnmfklmgmfaaPostn
import Derived.Test.YtfpdnmfklmgmfaaEncq
import Derived.Test.YtfpdnmfklmgmfaaAwake
import Derived.JoinedOf
import Derived.JoinedAt
import Derived.ChangeSame
import Derived.OpenShut
import Derived.Deep.RegionHeld3
namespace Go.Proofs.Ytfpdnmfklmgmfaa
open Go.RowKit Go.ChangeShapes Go.WideShapes Go.ChangeAt Go.Joins

theorem encl_facts {a b c d x y : Int} (a0 : -1000 ≤ a) (b1 : b ≤ 1000) (c0 : -1000 ≤ c) (d1 : d ≤ 1000) (x0 : a ≤ x) (x1 : x ≤ b) (y0 : c ≤ y) (y1 : y ≤ d) :
    addS a b c d = (a + c, b + d, 0) ∧ subS a b c d = (a - d, b - c, 0) ∧ mulS a b c d = (min (a * c) (min (a * d) (min (b * c) (b * d))), max (a * c) (max (a * d) (max (b * c) (b * d))), 0) ∧
      inB (a + c) (b + d) (x + y) = true ∧ inB (a - d) (b - c) (x - y) = true ∧ inB (min (a * c) (min (a * d) (min (b * c) (b * d)))) (max (a * c) (max (a * d) (max (b * c) (b * d)))) (x * y) = true ∧
      ∃ l : Int, squareS a b = (l, max (a * a) (b * b), 0) ∧ inB l (max (a * a) (b * b)) (x * x) = true := by
  have m1 := mul_bd (x := a) (y := c) (B := 1000) (C := 1000) (by omega) (by omega) (by omega) (by omega)
  have m2 := mul_bd (x := a) (y := d) (B := 1000) (C := 1000) (by omega) (by omega) (by omega) (by omega)
  have m3 := mul_bd (x := b) (y := c) (B := 1000) (C := 1000) (by omega) (by omega) (by omega) (by omega)
  have m4 := mul_bd (x := b) (y := d) (B := 1000) (C := 1000) (by omega) (by omega) (by omega) (by omega)
  have hb := mul_between x0 x1 y0 y1
  obtain ⟨l, m, hs, l0, lm, mm, hm, hq, _, _, _⟩ := square_val (a := a) (b := b) (by omega) (by omega) (by omega)
  subst hm
  have hx := hq x x0 x1
  refine ⟨add_val (by omega) (by omega) (by omega) (by omega) (by omega) (by omega), sub_val (by omega) (by omega) (by omega) (by omega) (by omega) (by omega), (by rw [mul_val (by omega) (by omega) (by omega) (by omega) (by omega) (by omega)]; simp only [Int.min_assoc, Int.max_assoc]), ?_, ?_, ?_, l, hs, ?_⟩
  · rw [in_iff (check_ok (by omega) (by omega) (by omega)), decide_eq_true_eq]; omega
  · rw [in_iff (check_ok (by omega) (by omega) (by omega)), decide_eq_true_eq]; omega
  · rw [in_iff (check_ok (by omega) (by omega) (by omega)), decide_eq_true_eq]; omega
  · rw [in_iff (check_ok (by omega) (by omega) (by omega)), decide_eq_true_eq]; omega

/-- the quotients: none, or those that enclose -/
theorem encl_quot {a b c d x y : Int} (a0 : -1000 ≤ a) (b1 : b ≤ 1000) (c0 : -1000 ≤ c) (d1 : d ≤ 1000) (x0 : a ≤ x) (x1 : x ≤ b) (y0 : c ≤ y) (y1 : y ≤ d) :
    (c ≤ 0 ∧ 0 ≤ d ∧ quotS a b c d = (0, 0, 2)) ∨ (¬ (c ≤ 0 ∧ 0 ≤ d) ∧ ∃ l m p q : Int, quotS a b c d = (l, m, 0) ∧ mulDivE x 1 y = (p, q, 0) ∧ inB l m p = true ∧ inB l m q = true) := by
  by_cases h : c ≤ 0 ∧ 0 ≤ d
  · left
    refine ⟨h.1, h.2, ?_⟩
    unfold quotS
    rw [if_pos (valid_ok (check_ok (by omega) (by omega) (by omega)) (check_ok (by omega) (by omega) (by omega))), if_pos h]
  · right
    obtain ⟨l, m, hq, l0, lm, m0, hin, _, _⟩ := quot_val (a := a) (b := b) (c := c) (d := d) (by omega) (by omega) (by omega) (by omega) (by omega) (by omega) h
    obtain ⟨g1, g2⟩ := hin x y x0 x1 y0 y1
    have hy : y ≠ 0 := by omega
    have g3 := cei_flo (p := x) hy
    have hc := check_ok (a := l) (b := m) (by omega) lm (by omega)
    refine ⟨h, l, m, floQ x y, ceiQ x y, hq, ?_, ?_, ?_⟩
    · unfold mulDivE
      rw [if_pos ⟨(fits_iff _).2 (by omega), (fits_iff _).2 (by omega), (fits_iff _).2 (by omega), hy⟩, Int.mul_one]
      exact md_val hy (by omega) (by omega)
    · rw [in_iff hc, decide_eq_true_eq]; omega
    · rw [in_iff hc, decide_eq_true_eq]; omega

set_option maxRecDepth 100000 in
set_option maxHeartbeats 100000000 in
theorem encl_law (v0 : Value) {w : World} (hN : Nums w v0) :
    Gives Try.prog 15 #[v0] w (.bool true) := by
  obtain ⟨sa, sn, sc, rfl⟩ := hN.form
  have KR := hide (fun t W hu hb t0 t1 => range_any w _ hN w.heap.size t (-500) 500 W hu hb (Nat.le_refl _) t0 t1 (by omega) (by omega) (by omega))
  have KQ := hide (fun t W hu hb t0 t1 => range_any w _ hN w.heap.size t 0 1000 W hu hb (Nat.le_refl _) t0 t1 (by omega) (by omega) (by omega))
  have KS := hide (fun t about W hu hb t0 t1 a0 a1 => spanof_any w _ hN w.heap.size t about 60 W hu hb (Nat.le_refl _) t0 t1 a0 a1 (by omega) (by omega))
  clear hN
  (unfold Gives; go_enter Try.func15, Try.ntmps15)
  go_wp2_with fail
  refine (newring_any _ _ _ _).mono ?_
  rintro _ _ ⟨rfl, rfl⟩
  go_wp2_with fail
  refine (KR.out _ _ (by repeat (first | with_reducible exact Up.refl _ | apply Up.ext | apply Up.alloc | apply Up.drew | (refine Up.setCell ?_ (by simp; try omega) _))) (by repeat (first | exact Box.mk rfl | exact Box.mk (by simp) | apply Box.ext | apply Box.alloc | apply Box.two1 | (refine Box.other ?_ (by omega) _ _))) (by omega) (by omega)).mono ?_
  rintro _ _ ⟨e, pe, e0, e1, rfl, rfl⟩
  go_wp2_with fail
  refine (KS.out _ _ _ (by repeat (first | with_reducible exact Up.refl _ | apply Up.ext | apply Up.alloc | apply Up.drew | (refine Up.setCell ?_ (by simp; try omega) _))) (by repeat (first | exact Box.mk rfl | exact Box.mk (by simp) | apply Box.ext | apply Box.alloc | apply Box.two1 | (refine Box.other ?_ (by omega) _ _))) (by omega) (by omega) (by omega) (by omega)).mono ?_
  rintro _ _ ⟨a, b, pa, a0, a1, a2, a3, rfl, rfl⟩
  go_wp2_with fail
  refine (KR.out _ _ (by repeat (first | with_reducible exact Up.refl _ | apply Up.ext | apply Up.alloc | apply Up.drew | (refine Up.setCell ?_ (by simp; try omega) _))) (by repeat (first | exact Box.mk rfl | exact Box.mk (by simp) | apply Box.ext | apply Box.alloc | apply Box.two1 | (refine Box.other ?_ (by omega) _ _))) (by omega) (by omega)).mono ?_
  rintro _ _ ⟨f, pf, f0, f1, rfl, rfl⟩
  go_wp2_with fail
  refine (KS.out _ _ _ (by repeat (first | with_reducible exact Up.refl _ | apply Up.ext | apply Up.alloc | apply Up.drew | (refine Up.setCell ?_ (by simp; try omega) _))) (by repeat (first | exact Box.mk rfl | exact Box.mk (by simp) | apply Box.ext | apply Box.alloc | apply Box.two1 | (refine Box.other ?_ (by omega) _ _))) (by omega) (by omega) (by omega) (by omega)).mono ?_
  rintro _ _ ⟨c, d, pc, c0, c1, c2, c3, rfl, rfl⟩
  go_wp2_with fail
  generalize (((pe.plus pa).plus pf).plus pc) = px
  go_region_held3 (fun W => (W.cell? ⟨w.heap.size + 1 + px.os.size, 0, none⟩ = some (.int .i64 a) ∧ W.cell? ⟨w.heap.size + 1 + px.os.size, 1, none⟩ = some (.int .i64 b)) ∧ W.cell? ⟨w.heap.size + 1 + px.os.size + 1, 0, none⟩ = some (.int .i64 c) ∧ W.cell? ⟨w.heap.size + 1 + px.os.size + 1, 1, none⟩ = some (.int .i64 d)) (exact ⟨Box.two (by repeat (first | exact Box.mk rfl | exact Box.mk (by simp) | apply Box.ext | apply Box.drew | apply Box.alloc | (refine Box.other ?_ (by omega) _ _))), Box.two (by repeat (first | exact Box.mk rfl | exact Box.mk (by simp) | apply Box.ext | apply Box.drew | apply Box.alloc | (refine Box.other ?_ (by omega) _ _)))⟩)
    (first | (go_at_call 51; refine (KQ.out _ _ (by repeat (first | with_reducible exact Up.refl _ | apply Up.ext | apply Up.alloc | apply Up.drew | (refine Up.setCell ?_ (by simp; try omega) _))) (by repeat (first | exact Box.mk rfl | exact Box.mk (by simp) | apply Box.ext | apply Box.drew | apply Box.alloc | apply Box.two1 | (refine Box.other ?_ (by omega) _ _))) (by omega) (by omega)).mono ?_; rintro _ _ ⟨xr, pr, xr0, xr1, rfl, rfl⟩) | (go_at_call 70; obtain ⟨xi, xi0, xi1, KI⟩ := inspan_any a b xr (by omega) (by omega) (by omega) (by omega); (with_reducible refine (KI _).mono ?_); intro pi; clear KI) | (go_at_call 70; obtain ⟨yi, yi0, yi1, KI⟩ := inspan_any c d xr (by omega) (by omega) (by omega) (by omega); (with_reducible refine (KI _).mono ?_); intro pi; clear KI))
  obtain ⟨q1, q2, q3, q4, q5, q6, l, q7, q8⟩ := encl_facts (a := a) (b := b) (c := c) (d := d) (x := xi) (y := yi) (by omega) (by omega) (by omega) (by omega) (by omega) (by omega) (by omega) (by omega)
  have hq := encl_quot (a := a) (b := b) (c := c) (d := d) (x := xi) (y := yi) (by omega) (by omega) (by omega) (by omega) (by omega) (by omega) (by omega) (by omega)
  have A1 := fun W => add_any a b c d W
  have A2 := fun W => sub_any a b c d W
  have A3 := fun W => mul_any a b c d W
  have A4 := fun W => square_any a b W
  have I1 := fun W => in_any (a + c) (b + d) (xi + yi) W
  have I2 := fun W => in_any (a - d) (b - c) (xi - yi) W
  have I3 := fun W => in_any (min (a * c) (min (a * d) (min (b * c) (b * d)))) (max (a * c) (max (a * d) (max (b * c) (b * d)))) (xi * yi) W
  have I4 := fun W => in_any l (max (a * a) (b * b)) (xi * xi) W
  rw [q1] at A1
  rw [q2] at A2
  rw [q3] at A3
  rw [q7] at A4
  rw [q4] at I1
  rw [q5] at I2
  rw [q6] at I3
  rw [q8] at I4
  have A1 := hide A1
  have A2 := hide A2
  have A3 := hide A3
  have A4 := hide A4
  have I1 := hide I1
  have I2 := hide I2
  have I3 := hide I3
  have I4 := hide I4
  simp only at A1 A2 A3 A4
  clear q1 q2 q3 q4 q5 q6 q7 q8 KR KQ KS
  have hq := hide hq
  obtain ⟨p1, p1'⟩ := mul_bd (x := a) (y := c) (B := 1000) (C := 1000) (by omega) (by omega) (by omega) (by omega)
  obtain ⟨p2, p2'⟩ := mul_bd (x := a) (y := d) (B := 1000) (C := 1000) (by omega) (by omega) (by omega) (by omega)
  obtain ⟨p3, p3'⟩ := mul_bd (x := b) (y := c) (B := 1000) (C := 1000) (by omega) (by omega) (by omega) (by omega)
  obtain ⟨p4, p4'⟩ := mul_bd (x := b) (y := d) (B := 1000) (C := 1000) (by omega) (by omega) (by omega) (by omega)
  obtain ⟨p5, p5'⟩ := mul_bd (x := a) (y := a) (B := 1000) (C := 1000) (by omega) (by omega) (by omega) (by omega)
  obtain ⟨p6, p6'⟩ := mul_bd (x := b) (y := b) (B := 1000) (C := 1000) (by omega) (by omega) (by omega) (by omega)
  obtain ⟨p7, p7'⟩ := mul_bd (x := xi) (y := yi) (B := 1000) (C := 1000) (by omega) (by omega) (by omega) (by omega)
  obtain ⟨p8, p8'⟩ := mul_bd (x := xi) (y := xi) (B := 1000) (C := 1000) (by omega) (by omega) (by omega) (by omega)
  simp only [Int.reduceMul, Int.reduceNeg] at p1 p1' p2 p2' p3 p3' p4 p4' p5 p5' p6 p6' p7 p7' p8 p8'
  unfold Exit.then
  go_simp
  go_wp2_with (first | (go_at_call 52; (with_reducible refine (A1.out _).mono ?_); intro _) | (go_at_call 54; (with_reducible refine (A2.out _).mono ?_); intro _) | (go_at_call 56; (with_reducible refine (A3.out _).mono ?_); intro _) | (go_at_call 58; (with_reducible refine (A4.out _).mono ?_); intro _) | (go_at_call 41; (with_reducible refine (I1.out _).mono ?_); intro _) | (go_at_call 41; (with_reducible refine (I2.out _).mono ?_); intro _) | (go_at_call 41; (with_reducible refine (I3.out _).mono ?_); intro _) | (go_at_call 41; (with_reducible refine (I4.out _).mono ?_); intro _))
  ((first | with_reducible refine wp_region_ext2 (by kernel_rfl) (by kernel_rfl) ?_ | refine wp_region_ext (by kernel_rfl) (by kernel_rfl) ?_); (repeat (go_big_quiet_step (fail))); refine wpQuiet_nil ?_; intro _ hw'; obtain ⟨_, hw''⟩ := hw'; subst hw'')
  go_wp2
  refine wp_loop_rounds 4 ?_
  rw [rounds_succ]
  go_wp2
  ((first | with_reducible refine wp_region_ext2 (by kernel_rfl) (by kernel_rfl) ?_ | refine wp_region_ext (by kernel_rfl) (by kernel_rfl) ?_); (repeat (go_big_quiet_step (fail))); refine wpQuiet_nil ?_; intro _ hw'; obtain ⟨_, hw''⟩ := hw'; subst hw'')
  go_wp2
  rw [rounds_succ]
  go_wp2
  ((first | with_reducible refine wp_region_ext2 (by kernel_rfl) (by kernel_rfl) ?_ | refine wp_region_ext (by kernel_rfl) (by kernel_rfl) ?_); (repeat (go_big_quiet_step (fail))); refine wpQuiet_nil ?_; intro _ hw'; obtain ⟨_, hw''⟩ := hw'; subst hw'')
  go_wp2
  rw [rounds_succ]
  go_wp2
  ((first | with_reducible refine wp_region_ext2 (by kernel_rfl) (by kernel_rfl) ?_ | refine wp_region_ext (by kernel_rfl) (by kernel_rfl) ?_); (repeat (go_big_quiet_step (fail))); refine wpQuiet_nil ?_; intro _ hw'; obtain ⟨_, hw''⟩ := hw'; subst hw'')
  go_wp2
  rw [rounds_succ]
  go_wp2
  ((first | with_reducible refine wp_region_ext2 (by kernel_rfl) (by kernel_rfl) ?_ | refine wp_region_ext (by kernel_rfl) (by kernel_rfl) ?_); (repeat (go_big_quiet_step ((first | (go_at_call 69; with_reducible exact Gives.inRegion (of_any _ _ _)))))); refine wpQuiet_nil ?_; intro _ hw'; obtain ⟨_, hw''⟩ := hw'; subst hw'')
  rcases hq.out with ⟨z0, z1, hq⟩ | ⟨hz, l1, m1, u1, v1, hq, hd, hu, hv⟩
  · have Q1 := fun W => quot_any a b c d W
    rw [hq] at Q1
    have Q1 := hide Q1
    simp only at Q1
    clear hq
    go_wp2_with (first | (go_at_call 69; (with_reducible refine (of_any _ _ _).mono ?_); intro _) | (go_at_call 23; (with_reducible refine (awake_any _).mono ?_); intro _) | (go_at_call 30; (with_reducible refine (Q1.out _).mono ?_); intro _))
    go_ret
    exact ⟨rfl, (by repeat (first | with_reducible exact Up.refl _ | apply Up.ext | apply Up.alloc | apply Up.drew | (refine Up.setCell ?_ (by simp; try omega) _)))⟩
  · have Q1 := fun W => quot_any a b c d W
    rw [hq] at Q1
    have Q1 := hide Q1
    have D1 := fun W => muldiv_any xi 1 yi W
    rw [hd] at D1
    have D1 := hide D1
    have J1 := fun W => in_any l1 m1 u1 W
    rw [hu] at J1
    have J1 := hide J1
    have J2 := fun W => in_any l1 m1 v1 W
    rw [hv] at J2
    have J2 := hide J2
    simp only at Q1 D1 J1 J2
    clear hq hd hu hv
    have hz2 : c ≤ 0 → d < 0 := by omega
    go_wp2_with (first | (go_at_call 69; (with_reducible refine (of_any _ _ _).mono ?_); intro _) | (go_at_call 23; (with_reducible refine (awake_any _).mono ?_); intro _) | (go_at_call 30; (with_reducible refine (Q1.out _).mono ?_); intro _) | (go_at_call 32; (with_reducible refine (D1.out _).mono ?_); intro _) | (go_at_call 41; (with_reducible refine (J1.out _).mono ?_); intro _) | (go_at_call 41; (with_reducible refine (J2.out _).mono ?_); intro _))
    all_goals go_ret
    all_goals exact ⟨rfl, (by repeat (first | with_reducible exact Up.refl _ | apply Up.ext | apply Up.alloc | apply Up.drew | (refine Up.setCell ?_ (by simp; try omega) _)))⟩

set_option maxRecDepth 100000 in
theorem encl_lifted (os : Os) (started : os.Started) (H : Type) (enc : TypeId × Value → H) :
    ReturnsInHanded {} Try.checked os 15 .any (Rows.spanEnclosesSpec.pre6 enc Try.prog Try.f15 Rows.spanEnclosesRow.domain false) (Rows.spanEnclosesSpec.post enc Try.prog Try.f15 false true false false) := by
  refine returnsInHanded_of_change (C := Try.checked) knob_own started (by kernel_rfl) Try.func15
    (ChangeSpec.witness6 (enc := enc) (C := Try.checked) false ⟨#[], #[.slice none 0 0], []⟩ 8 (by kernel_rfl) (by kernel_rfl) (by kernel_rfl) (by kernel_rfl)) ?_
  intro W base args ds gs before hval0 hW _ _
  have hval : ∀ (j : Nat) t v, Try.f15.params[j]? = some t → args[j]? = some v → Value.okWide Try.prog W .any base t v := hval0
  have hW' := hW
  obtain ⟨p, q, hA0, hV, rfl, _, _⟩ := hW
  have hA : DataW.TrodAll enc Try.prog W 0 (fun _ => true) true Try.f15.params.toList args.toList ds p := hA0
  rw [Try.params15] at hA hval
  obtain ⟨v0, vs0, d0, ds0, p0, q0, hargs, rfl, rfl, h0, r0⟩ := trodAll_cons hA
  obtain ⟨rfl, rfl, rfl⟩ := trodAll_nil r0
  obtain rfl : args = #[v0] := by cases args; simp_all
  obtain ⟨rfl, rfl⟩ := trodVars_none hV
  have hlt0 : ∀ x ∈ p0, x.block < W.heap.size := fun x hx => hW'.lt x (by simp [hx])
  obtain ⟨hn0, shut0⟩ := open_nums (hval 0 55 v0 rfl rfl) h0 hlt0
  clear hA0 hval0
  simp only [List.append_nil] at hW'
  refine (encl_law v0 hn0 ).mono fun px => ?_
  exact ⟨_, rfl, post_of_below (pa := (p0 ++ [])) (pv := []) hW' (fun _ _ _ => (trodAll_cons_mk (shut_bool Try.underlying4 _) trodAll_mk0)) (fun sp hsp => (trodAll_cons_mk (shut0 _ sp (Up.below ⟨px, rfl⟩) (fun x hx => hsp x (by simp [hx]))) trodAll_mk0)) (fun _ _ => rfl) (by simp)
    (Up.below ⟨px, rfl⟩) (ok_one (by kernel_rfl) rfl (okWide_bool_mk Try.underlying4 _))⟩

theorem encl_holds : Rows.SpanEnclosesSaid :=
  OpenClaim.holds_of_wide 15 Try.f15 rfl rfl rfl rfl rfl rfl rfl ⟨rfl, rfl, rfl, rfl, rfl⟩ rfl rfl rfl rfl rfl (by kernel_rfl) Try.func15 (by kernel_rfl)
    (of_decide_eq_true (by kernel_rfl)) (by unfold Func.isWrapper; rw [if_neg (by decide +kernel)]; exact ⟨rfl, rfl⟩)
    (fun os started H enc _ => encl_lifted os started H enc)
#print axioms encl_holds
end Go.Proofs.Ytfpdnmfklmgmfaa
