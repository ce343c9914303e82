/- SpanParts returns true for every input: Meet and Hull do not depend on the order, a number is in Meet just if it is in both, and the halves of a span have each of its numbers once. No conditions. -/
import Derived.Test.YtfpdnmfklmgmfaaPostn
import Derived.Test.YtfpdnmfklmgmfaaAwake
import Derived.Test.YtfpdnmfklmgmfaaSpanB
import Derived.JoinedOf
import Derived.JoinedAt
import Derived.ChangeSame
import Derived.OpenShut
namespace Go.Proofs.Ytfpdnmfklmgmfaa
open Go.RowKit Go.ChangeShapes Go.WideShapes Go.ChangeAt Go.Joins

/-- what the hull, the meet and the halves of two small spans say of a number -/
theorem parts_facts (a b c d N : Int) (a0 : -1000 ≤ a) (ab : a ≤ b) (b1 : b ≤ 1000) (c0 : -1000 ≤ c) (cd : c ≤ d) (d1 : d ≤ 1000) :
    ∃ (P1 P2 h1 h2 : Int) (is ip ia ib ih : Bool), meetS a b c d = (P1, P2, is) ∧ meetS c d a b = (P1, P2, is) ∧ hullS a b c d = (h1, h2) ∧ hullS c d a b = (h1, h2) ∧
      inB a b N = ia ∧ inB c d N = ib ∧ inB P1 P2 N = ip ∧ inB h1 h2 N = ih ∧ (is = true → ip = (ia && ib)) ∧ (is = false → (ia && ib) = false) ∧ ((ia || ib) = true → ih = true) ∧ insideB a b h1 h2 = true := by
  have e1 : checkE a b = 0 := check_ok (by omega) ab (by omega)
  have e2 : checkE c d = 0 := check_ok (by omega) cd (by omega)
  have v1 : validE a b c d = 0 := by unfold validE; rw [if_pos e1, e2]
  have v2 : validE c d a b = 0 := by unfold validE; rw [if_pos e2, e1]
  have eh : checkE (min a c) (max b d) = 0 := check_ok (by omega) (by omega) (by omega)
  have hin : ∀ x y, checkE x y = 0 → inB x y N = decide (x ≤ N ∧ N ≤ y) := fun x y h => by unfold inB; rw [h]; rfl
  have hh1 : hullS a b c d = (min a c, max b d) := by unfold hullS; rw [if_pos v1]
  have hh2 : hullS c d a b = (min a c, max b d) := by unfold hullS; rw [if_pos v2, Int.min_comm, Int.max_comm]
  have hi : insideB a b (min a c) (max b d) = true := by
    unfold insideB validE
    rw [if_pos e1, eh]
    simp; omega
  by_cases hm : max a c ≤ min b d
  · have em : checkE (max a c) (min b d) = 0 := check_ok (by omega) hm (by omega)
    refine ⟨max a c, min b d, min a c, max b d, true, _, _, _, _, ?_, ?_, hh1, hh2, rfl, rfl, rfl, rfl, ?_, by simp, ?_, hi⟩
    · unfold meetS; rw [if_pos ⟨v1, hm⟩]
    · unfold meetS; rw [if_pos ⟨v2, by omega⟩, Int.max_comm, Int.min_comm]
    · intro _
      rw [hin _ _ e1, hin _ _ e2, hin _ _ em, ← Bool.decide_and]
      exact decide_eq_decide.2 (by omega)
    · rw [hin _ _ e1, hin _ _ e2, hin _ _ eh, ← Bool.decide_or]
      simp only [decide_eq_true_eq]; omega
  · refine ⟨0, 0, min a c, max b d, false, _, _, _, _, ?_, ?_, hh1, hh2, rfl, rfl, rfl, rfl, by simp, ?_, ?_, hi⟩
    · unfold meetS; rw [if_neg (by omega)]
    · unfold meetS; rw [if_neg (by omega)]
    · intro _
      rw [hin _ _ e1, hin _ _ e2, ← Bool.decide_and, decide_eq_false_iff_not]
      omega
    · rw [hin _ _ e1, hin _ _ e2, hin _ _ eh, ← Bool.decide_or]
      simp only [decide_eq_true_eq]; omega

theorem halves_facts (a b N : Int) (a0 : -1000 ≤ a) (ab : a ≤ b) (b1 : b ≤ 1000) :
    (a = b ∧ splitS a b = (0, 0, 0, 0, false)) ∨ ∃ (m : Int) (one two : Bool), a ≤ m ∧ m < b ∧ splitS a b = (a, m, m + 1, b, true) ∧ inB a m N = one ∧ inB (m + 1) b N = two ∧ inB a b N = (one || two) ∧ (one && two) = false ∧
      hullS a m (m + 1) b = (a, b) ∧ 0 ≤ m - a - (b - (m + 1)) ∧ m - a - (b - (m + 1)) ≤ 1 := by
  have e1 : checkE a b = 0 := check_ok (by omega) ab (by omega)
  have hin : ∀ x y, checkE x y = 0 → inB x y N = decide (x ≤ N ∧ N ≤ y) := fun x y h => by unfold inB; rw [h]; rfl
  by_cases h : a = b
  · left; exact ⟨h, by unfold splitS; rw [if_neg (by omega)]⟩
  · right
    have e2 : checkE a ((a + b) / 2) = 0 := check_ok (by omega) (by omega) (by omega)
    have e3 : checkE ((a + b) / 2 + 1) b = 0 := check_ok (by omega) (by omega) (by omega)
    refine ⟨(a + b) / 2, _, _, by omega, by omega, ?_, rfl, rfl, ?_, ?_, ?_, by omega, by omega⟩
    · unfold splitS; rw [if_pos ⟨e1, h⟩]
    · rw [hin _ _ e1, hin _ _ e2, hin _ _ e3, ← Bool.decide_or]
      exact decide_eq_decide.2 (by omega)
    · rw [hin _ _ e2, hin _ _ e3, ← Bool.decide_and, decide_eq_false_iff_not]
      omega
    · unfold hullS validE
      rw [if_pos e2, e3, if_pos rfl]
      congr 1 <;> omega

set_option maxRecDepth 100000 in
set_option maxHeartbeats 100000000 in
theorem parts_law (v0 : Value) {w : World} (hN : Nums w v0) (n : Int) (hn : -9223372036854775808 ≤ n ∧ n ≤ 9223372036854775807) :
    Gives Try.prog 10 #[v0, .int .i64 n] w (.bool true) := by
  obtain ⟨sa, sn, sc, rfl⟩ := hN.form
  obtain ⟨m, hm, m0, m1⟩ : ∃ m, n % 240 = m ∧ 0 ≤ m ∧ m < 240 := ⟨_, rfl, by omega, by omega⟩
  have KM := hide (fun W => mod64_any n 240 hn.1 hn.2 (by omega) (by omega) W)
  rw [hm] at KM
  have KR := hide (fun t W hu hb t0 t1 => range_any w _ hN w.heap.size t (-50) 50 W hu hb (Nat.le_refl _) t0 t1 (by omega) (by omega) (by omega))
  have KS := hide (fun t about W hu hb t0 t1 a0 a1 => spanof_any w _ hN w.heap.size t about 40 W hu hb (Nat.le_refl _) t0 t1 a0 a1 (by omega) (by omega))
  clear hm hn hN
  (unfold Gives; go_enter Try.func10, Try.ntmps10)
  go_wp2_with fail
  refine (newring_any _ _ _ _).mono ?_
  rintro _ _ ⟨rfl, rfl⟩
  go_wp2_with fail
  refine (KR.out _ _ (by repeat (first | with_reducible exact Up.refl _ | apply Up.ext | apply Up.alloc | (refine Up.setCell ?_ (by simp; try omega) _))) (by repeat (first | exact Box.mk rfl | exact Box.mk (by simp) | apply Box.ext | apply Box.alloc | apply Box.two1 | (refine Box.other ?_ (by omega) _ _))) (by omega) (by omega)).mono ?_
  rintro _ _ ⟨e, pe, e0, e1, rfl, rfl⟩
  go_wp2_with fail
  refine (KS.out _ _ _ (by repeat (first | with_reducible exact Up.refl _ | apply Up.ext | apply Up.alloc | (refine Up.setCell ?_ (by simp; try omega) _))) (by repeat (first | exact Box.mk rfl | exact Box.mk (by simp) | apply Box.ext | apply Box.alloc | apply Box.two1 | (refine Box.other ?_ (by omega) _ _))) (by omega) (by omega) (by omega) (by omega)).mono ?_
  rintro _ _ ⟨a, b, pa, a0, a1, a2, a3, rfl, rfl⟩
  go_wp2_with fail
  refine (KR.out _ _ (by repeat (first | with_reducible exact Up.refl _ | apply Up.ext | apply Up.alloc | (refine Up.setCell ?_ (by simp; try omega) _))) (by repeat (first | exact Box.mk rfl | exact Box.mk (by simp) | apply Box.ext | apply Box.alloc | apply Box.two1 | (refine Box.other ?_ (by omega) _ _))) (by omega) (by omega)).mono ?_
  rintro _ _ ⟨f, pf, f0, f1, rfl, rfl⟩
  go_wp2_with fail
  refine (KS.out _ _ _ (by repeat (first | with_reducible exact Up.refl _ | apply Up.ext | apply Up.alloc | (refine Up.setCell ?_ (by simp; try omega) _))) (by repeat (first | exact Box.mk rfl | exact Box.mk (by simp) | apply Box.ext | apply Box.alloc | apply Box.two1 | (refine Box.other ?_ (by omega) _ _))) (by omega) (by omega) (by omega) (by omega)).mono ?_
  rintro _ _ ⟨c, d, pc, c0, c1, c2, c3, rfl, rfl⟩
  obtain ⟨P1, P2, h1, h2, is, ip, ia, ib, ih, q1, q2, q3, q4, q5, q6, q7, q8, q9, q10, q11, q12⟩ := parts_facts a b c d (-120 + m) (by omega) (by omega) (by omega) (by omega) (by omega) (by omega)
  have hv := halves_facts a b (-120 + m) (by omega) (by omega) (by omega)
  have M1 := fun W => meet_any a b c d W
  have M2 := fun W => meet_any c d a b W
  have L1 := fun W => hull_any a b c d W
  have L2 := fun W => hull_any c d a b W
  have I1 := fun W => in_any a b (-120 + m) W
  have I2 := fun W => in_any c d (-120 + m) W
  have I3 := fun W => in_any P1 P2 (-120 + m) W
  have I4 := fun W => in_any h1 h2 (-120 + m) W
  have J1 := fun W => inside_any a b h1 h2 W
  have S1 := fun W => split_any a b W
  rw [q1] at M1
  rw [q2] at M2
  rw [q3] at L1
  rw [q4] at L2
  rw [q5] at I1 hv
  rw [q6] at I2
  rw [q7] at I3
  rw [q8] at I4
  rw [q12] at J1
  have M1 := hide M1
  have M2 := hide M2
  have L1 := hide L1
  have L2 := hide L2
  have I1 := hide I1
  have I2 := hide I2
  have I3 := hide I3
  have I4 := hide I4
  have J1 := hide J1
  clear q1 q2 q3 q4 q5 q6 q7 q8 q12
  simp only at M1 M2 L1 L2
  rcases hv with ⟨rfl, hs⟩ | ⟨mm, one, two, s0, s1, hs, t1, t2, t3, t4, t5, t6, t7⟩
  · rw [hs] at S1
    have S1 := hide S1
    clear hs
    cases is <;> cases ia <;> cases ib <;> simp at q9 q10 q11
    all_goals (try subst ip)
    all_goals (try subst ih)
    all_goals go_wp2_with (first | (go_at_call 25; (with_reducible refine (KM.out _).mono ?_); intro _) | (go_at_call 35; (with_reducible refine (M1.out _).mono ?_); intro _) | (go_at_call 35; (with_reducible refine (M2.out _).mono ?_); intro _) | (go_at_call 45; (with_reducible refine (L1.out _).mono ?_); intro _) | (go_at_call 45; (with_reducible refine (L2.out _).mono ?_); intro _) | (go_at_call 41; (with_reducible refine (I1.out _).mono ?_); intro _) | (go_at_call 41; (with_reducible refine (I2.out _).mono ?_); intro _) | (go_at_call 41; (with_reducible refine (I3.out _).mono ?_); intro _) | (go_at_call 41; (with_reducible refine (I4.out _).mono ?_); intro _) | (go_at_call 43; (with_reducible refine (J1.out _).mono ?_); intro _) | (go_at_call 37; (with_reducible refine (S1.out _).mono ?_); intro _) | (go_at_call 23; (with_reducible refine (awake_any _).mono ?_); intro _))
    all_goals ((first | with_reducible refine wp_region_ext2 (by kernel_rfl) (by kernel_rfl) ?_ | refine wp_region_ext (by kernel_rfl) (by kernel_rfl) ?_); (repeat (go_big_quiet_step ((first | (go_at_call 25; with_reducible exact Gives.inRegion (KM.out _)) | (go_at_call 35; with_reducible exact Gives.inRegion (M1.out _)) | (go_at_call 35; with_reducible exact Gives.inRegion (M2.out _)) | (go_at_call 45; with_reducible exact Gives.inRegion (L1.out _)) | (go_at_call 45; with_reducible exact Gives.inRegion (L2.out _)) | (go_at_call 41; with_reducible exact Gives.inRegion (I1.out _)) | (go_at_call 41; with_reducible exact Gives.inRegion (I2.out _)) | (go_at_call 41; with_reducible exact Gives.inRegion (I3.out _)) | (go_at_call 41; with_reducible exact Gives.inRegion (I4.out _)) | (go_at_call 43; with_reducible exact Gives.inRegion (J1.out _)) | (go_at_call 37; with_reducible exact Gives.inRegion (S1.out _)) | (go_at_call 23; with_reducible exact Gives.inRegion (awake_any _)))))); refine wpQuiet_nil ?_; intro _ hw'; obtain ⟨_, hw''⟩ := hw'; subst hw'')
    all_goals go_wp2_with (first | (go_at_call 25; (with_reducible refine (KM.out _).mono ?_); intro _) | (go_at_call 35; (with_reducible refine (M1.out _).mono ?_); intro _) | (go_at_call 35; (with_reducible refine (M2.out _).mono ?_); intro _) | (go_at_call 45; (with_reducible refine (L1.out _).mono ?_); intro _) | (go_at_call 45; (with_reducible refine (L2.out _).mono ?_); intro _) | (go_at_call 41; (with_reducible refine (I1.out _).mono ?_); intro _) | (go_at_call 41; (with_reducible refine (I2.out _).mono ?_); intro _) | (go_at_call 41; (with_reducible refine (I3.out _).mono ?_); intro _) | (go_at_call 41; (with_reducible refine (I4.out _).mono ?_); intro _) | (go_at_call 43; (with_reducible refine (J1.out _).mono ?_); intro _) | (go_at_call 37; (with_reducible refine (S1.out _).mono ?_); intro _) | (go_at_call 23; (with_reducible refine (awake_any _).mono ?_); intro _))
    all_goals (try ((first | with_reducible refine wp_region_ext2 (by kernel_rfl) (by kernel_rfl) ?_ | refine wp_region_ext (by kernel_rfl) (by kernel_rfl) ?_); (repeat (go_big_quiet_step ((first | (go_at_call 25; with_reducible exact Gives.inRegion (KM.out _)) | (go_at_call 35; with_reducible exact Gives.inRegion (M1.out _)) | (go_at_call 35; with_reducible exact Gives.inRegion (M2.out _)) | (go_at_call 45; with_reducible exact Gives.inRegion (L1.out _)) | (go_at_call 45; with_reducible exact Gives.inRegion (L2.out _)) | (go_at_call 41; with_reducible exact Gives.inRegion (I1.out _)) | (go_at_call 41; with_reducible exact Gives.inRegion (I2.out _)) | (go_at_call 41; with_reducible exact Gives.inRegion (I3.out _)) | (go_at_call 41; with_reducible exact Gives.inRegion (I4.out _)) | (go_at_call 43; with_reducible exact Gives.inRegion (J1.out _)) | (go_at_call 37; with_reducible exact Gives.inRegion (S1.out _)) | (go_at_call 23; with_reducible exact Gives.inRegion (awake_any _)))))); refine wpQuiet_nil ?_; intro _ hw'; obtain ⟨_, hw''⟩ := hw'; subst hw''))
    all_goals (try go_wp2_with (first | (go_at_call 25; (with_reducible refine (KM.out _).mono ?_); intro _) | (go_at_call 35; (with_reducible refine (M1.out _).mono ?_); intro _) | (go_at_call 35; (with_reducible refine (M2.out _).mono ?_); intro _) | (go_at_call 45; (with_reducible refine (L1.out _).mono ?_); intro _) | (go_at_call 45; (with_reducible refine (L2.out _).mono ?_); intro _) | (go_at_call 41; (with_reducible refine (I1.out _).mono ?_); intro _) | (go_at_call 41; (with_reducible refine (I2.out _).mono ?_); intro _) | (go_at_call 41; (with_reducible refine (I3.out _).mono ?_); intro _) | (go_at_call 41; (with_reducible refine (I4.out _).mono ?_); intro _) | (go_at_call 43; (with_reducible refine (J1.out _).mono ?_); intro _) | (go_at_call 37; (with_reducible refine (S1.out _).mono ?_); intro _) | (go_at_call 23; (with_reducible refine (awake_any _).mono ?_); intro _)))
    all_goals (try ((first | with_reducible refine wp_region_ext2 (by kernel_rfl) (by kernel_rfl) ?_ | refine wp_region_ext (by kernel_rfl) (by kernel_rfl) ?_); (repeat (go_big_quiet_step ((first | (go_at_call 25; with_reducible exact Gives.inRegion (KM.out _)) | (go_at_call 35; with_reducible exact Gives.inRegion (M1.out _)) | (go_at_call 35; with_reducible exact Gives.inRegion (M2.out _)) | (go_at_call 45; with_reducible exact Gives.inRegion (L1.out _)) | (go_at_call 45; with_reducible exact Gives.inRegion (L2.out _)) | (go_at_call 41; with_reducible exact Gives.inRegion (I1.out _)) | (go_at_call 41; with_reducible exact Gives.inRegion (I2.out _)) | (go_at_call 41; with_reducible exact Gives.inRegion (I3.out _)) | (go_at_call 41; with_reducible exact Gives.inRegion (I4.out _)) | (go_at_call 43; with_reducible exact Gives.inRegion (J1.out _)) | (go_at_call 37; with_reducible exact Gives.inRegion (S1.out _)) | (go_at_call 23; with_reducible exact Gives.inRegion (awake_any _)))))); refine wpQuiet_nil ?_; intro _ hw'; obtain ⟨_, hw''⟩ := hw'; subst hw''))
    all_goals (try go_wp2_with (first | (go_at_call 25; (with_reducible refine (KM.out _).mono ?_); intro _) | (go_at_call 35; (with_reducible refine (M1.out _).mono ?_); intro _) | (go_at_call 35; (with_reducible refine (M2.out _).mono ?_); intro _) | (go_at_call 45; (with_reducible refine (L1.out _).mono ?_); intro _) | (go_at_call 45; (with_reducible refine (L2.out _).mono ?_); intro _) | (go_at_call 41; (with_reducible refine (I1.out _).mono ?_); intro _) | (go_at_call 41; (with_reducible refine (I2.out _).mono ?_); intro _) | (go_at_call 41; (with_reducible refine (I3.out _).mono ?_); intro _) | (go_at_call 41; (with_reducible refine (I4.out _).mono ?_); intro _) | (go_at_call 43; (with_reducible refine (J1.out _).mono ?_); intro _) | (go_at_call 37; (with_reducible refine (S1.out _).mono ?_); intro _) | (go_at_call 23; (with_reducible refine (awake_any _).mono ?_); intro _)))
    all_goals (try ((first | with_reducible refine wp_region_ext2 (by kernel_rfl) (by kernel_rfl) ?_ | refine wp_region_ext (by kernel_rfl) (by kernel_rfl) ?_); (repeat (go_big_quiet_step ((first | (go_at_call 25; with_reducible exact Gives.inRegion (KM.out _)) | (go_at_call 35; with_reducible exact Gives.inRegion (M1.out _)) | (go_at_call 35; with_reducible exact Gives.inRegion (M2.out _)) | (go_at_call 45; with_reducible exact Gives.inRegion (L1.out _)) | (go_at_call 45; with_reducible exact Gives.inRegion (L2.out _)) | (go_at_call 41; with_reducible exact Gives.inRegion (I1.out _)) | (go_at_call 41; with_reducible exact Gives.inRegion (I2.out _)) | (go_at_call 41; with_reducible exact Gives.inRegion (I3.out _)) | (go_at_call 41; with_reducible exact Gives.inRegion (I4.out _)) | (go_at_call 43; with_reducible exact Gives.inRegion (J1.out _)) | (go_at_call 37; with_reducible exact Gives.inRegion (S1.out _)) | (go_at_call 23; with_reducible exact Gives.inRegion (awake_any _)))))); refine wpQuiet_nil ?_; intro _ hw'; obtain ⟨_, hw''⟩ := hw'; subst hw''))
    all_goals (try go_wp2_with (first | (go_at_call 25; (with_reducible refine (KM.out _).mono ?_); intro _) | (go_at_call 35; (with_reducible refine (M1.out _).mono ?_); intro _) | (go_at_call 35; (with_reducible refine (M2.out _).mono ?_); intro _) | (go_at_call 45; (with_reducible refine (L1.out _).mono ?_); intro _) | (go_at_call 45; (with_reducible refine (L2.out _).mono ?_); intro _) | (go_at_call 41; (with_reducible refine (I1.out _).mono ?_); intro _) | (go_at_call 41; (with_reducible refine (I2.out _).mono ?_); intro _) | (go_at_call 41; (with_reducible refine (I3.out _).mono ?_); intro _) | (go_at_call 41; (with_reducible refine (I4.out _).mono ?_); intro _) | (go_at_call 43; (with_reducible refine (J1.out _).mono ?_); intro _) | (go_at_call 37; (with_reducible refine (S1.out _).mono ?_); intro _) | (go_at_call 23; (with_reducible refine (awake_any _).mono ?_); intro _)))
    all_goals go_ret
    all_goals exact ⟨rfl, (by repeat (first | with_reducible exact Up.refl _ | apply Up.ext | apply Up.alloc | apply Up.drew | (refine Up.setCell ?_ (by simp; try omega) _)))⟩
  · rw [hs] at S1
    have S1 := hide S1
    have I5 := fun W => in_any a mm (-120 + m) W
    have I6 := fun W => in_any (mm + 1) b (-120 + m) W
    have L3 := fun W => hull_any a mm (mm + 1) b W
    rw [t1] at I5
    rw [t2] at I6
    rw [t5] at L3
    have I5 := hide I5
    have I6 := hide I6
    have L3 := hide L3
    clear hs t1 t2 t5
    have t8 : b - (mm + 1) ≤ mm - a := by omega
    have t9 : decide (b - (mm + 1) ≤ mm - a) = true := by simp; omega
    have t10 : decide (0 ≤ mm - a - (b - (mm + 1))) = true := by simp; omega
    have t11 : decide (mm - a - (b - (mm + 1)) ≤ 1) = true := by simp; omega
    cases one <;> cases two <;> simp at t3 t4
    all_goals subst t3
    all_goals (cases is <;> cases ib <;> simp at q9 q10 q11)
    all_goals (try subst ip)
    all_goals (try subst ih)
    all_goals go_wp2_with (first | (go_at_call 25; (with_reducible refine (KM.out _).mono ?_); intro _) | (go_at_call 35; (with_reducible refine (M1.out _).mono ?_); intro _) | (go_at_call 35; (with_reducible refine (M2.out _).mono ?_); intro _) | (go_at_call 45; (with_reducible refine (L1.out _).mono ?_); intro _) | (go_at_call 45; (with_reducible refine (L2.out _).mono ?_); intro _) | (go_at_call 41; (with_reducible refine (I1.out _).mono ?_); intro _) | (go_at_call 41; (with_reducible refine (I2.out _).mono ?_); intro _) | (go_at_call 41; (with_reducible refine (I3.out _).mono ?_); intro _) | (go_at_call 41; (with_reducible refine (I4.out _).mono ?_); intro _) | (go_at_call 43; (with_reducible refine (J1.out _).mono ?_); intro _) | (go_at_call 37; (with_reducible refine (S1.out _).mono ?_); intro _) | (go_at_call 23; (with_reducible refine (awake_any _).mono ?_); intro _) | (go_at_call 41; (with_reducible refine (I5.out _).mono ?_); intro _) | (go_at_call 41; (with_reducible refine (I6.out _).mono ?_); intro _) | (go_at_call 45; (with_reducible refine (L3.out _).mono ?_); intro _))
    all_goals ((first | with_reducible refine wp_region_ext2 (by kernel_rfl) (by kernel_rfl) ?_ | refine wp_region_ext (by kernel_rfl) (by kernel_rfl) ?_); (repeat (go_big_quiet_step ((first | (go_at_call 25; with_reducible exact Gives.inRegion (KM.out _)) | (go_at_call 35; with_reducible exact Gives.inRegion (M1.out _)) | (go_at_call 35; with_reducible exact Gives.inRegion (M2.out _)) | (go_at_call 45; with_reducible exact Gives.inRegion (L1.out _)) | (go_at_call 45; with_reducible exact Gives.inRegion (L2.out _)) | (go_at_call 41; with_reducible exact Gives.inRegion (I1.out _)) | (go_at_call 41; with_reducible exact Gives.inRegion (I2.out _)) | (go_at_call 41; with_reducible exact Gives.inRegion (I3.out _)) | (go_at_call 41; with_reducible exact Gives.inRegion (I4.out _)) | (go_at_call 43; with_reducible exact Gives.inRegion (J1.out _)) | (go_at_call 37; with_reducible exact Gives.inRegion (S1.out _)) | (go_at_call 23; with_reducible exact Gives.inRegion (awake_any _)) | (go_at_call 41; with_reducible exact Gives.inRegion (I5.out _)) | (go_at_call 41; with_reducible exact Gives.inRegion (I6.out _)) | (go_at_call 45; with_reducible exact Gives.inRegion (L3.out _)))))); refine wpQuiet_nil ?_; intro _ hw'; obtain ⟨_, hw''⟩ := hw'; subst hw'')
    all_goals go_wp2_with (first | (go_at_call 25; (with_reducible refine (KM.out _).mono ?_); intro _) | (go_at_call 35; (with_reducible refine (M1.out _).mono ?_); intro _) | (go_at_call 35; (with_reducible refine (M2.out _).mono ?_); intro _) | (go_at_call 45; (with_reducible refine (L1.out _).mono ?_); intro _) | (go_at_call 45; (with_reducible refine (L2.out _).mono ?_); intro _) | (go_at_call 41; (with_reducible refine (I1.out _).mono ?_); intro _) | (go_at_call 41; (with_reducible refine (I2.out _).mono ?_); intro _) | (go_at_call 41; (with_reducible refine (I3.out _).mono ?_); intro _) | (go_at_call 41; (with_reducible refine (I4.out _).mono ?_); intro _) | (go_at_call 43; (with_reducible refine (J1.out _).mono ?_); intro _) | (go_at_call 37; (with_reducible refine (S1.out _).mono ?_); intro _) | (go_at_call 23; (with_reducible refine (awake_any _).mono ?_); intro _) | (go_at_call 41; (with_reducible refine (I5.out _).mono ?_); intro _) | (go_at_call 41; (with_reducible refine (I6.out _).mono ?_); intro _) | (go_at_call 45; (with_reducible refine (L3.out _).mono ?_); intro _))
    all_goals (try ((first | with_reducible refine wp_region_ext2 (by kernel_rfl) (by kernel_rfl) ?_ | refine wp_region_ext (by kernel_rfl) (by kernel_rfl) ?_); (repeat (go_big_quiet_step ((first | (go_at_call 25; with_reducible exact Gives.inRegion (KM.out _)) | (go_at_call 35; with_reducible exact Gives.inRegion (M1.out _)) | (go_at_call 35; with_reducible exact Gives.inRegion (M2.out _)) | (go_at_call 45; with_reducible exact Gives.inRegion (L1.out _)) | (go_at_call 45; with_reducible exact Gives.inRegion (L2.out _)) | (go_at_call 41; with_reducible exact Gives.inRegion (I1.out _)) | (go_at_call 41; with_reducible exact Gives.inRegion (I2.out _)) | (go_at_call 41; with_reducible exact Gives.inRegion (I3.out _)) | (go_at_call 41; with_reducible exact Gives.inRegion (I4.out _)) | (go_at_call 43; with_reducible exact Gives.inRegion (J1.out _)) | (go_at_call 37; with_reducible exact Gives.inRegion (S1.out _)) | (go_at_call 23; with_reducible exact Gives.inRegion (awake_any _)) | (go_at_call 41; with_reducible exact Gives.inRegion (I5.out _)) | (go_at_call 41; with_reducible exact Gives.inRegion (I6.out _)) | (go_at_call 45; with_reducible exact Gives.inRegion (L3.out _)))))); refine wpQuiet_nil ?_; intro _ hw'; obtain ⟨_, hw''⟩ := hw'; subst hw''))
    all_goals (try go_wp2_with (first | (go_at_call 25; (with_reducible refine (KM.out _).mono ?_); intro _) | (go_at_call 35; (with_reducible refine (M1.out _).mono ?_); intro _) | (go_at_call 35; (with_reducible refine (M2.out _).mono ?_); intro _) | (go_at_call 45; (with_reducible refine (L1.out _).mono ?_); intro _) | (go_at_call 45; (with_reducible refine (L2.out _).mono ?_); intro _) | (go_at_call 41; (with_reducible refine (I1.out _).mono ?_); intro _) | (go_at_call 41; (with_reducible refine (I2.out _).mono ?_); intro _) | (go_at_call 41; (with_reducible refine (I3.out _).mono ?_); intro _) | (go_at_call 41; (with_reducible refine (I4.out _).mono ?_); intro _) | (go_at_call 43; (with_reducible refine (J1.out _).mono ?_); intro _) | (go_at_call 37; (with_reducible refine (S1.out _).mono ?_); intro _) | (go_at_call 23; (with_reducible refine (awake_any _).mono ?_); intro _) | (go_at_call 41; (with_reducible refine (I5.out _).mono ?_); intro _) | (go_at_call 41; (with_reducible refine (I6.out _).mono ?_); intro _) | (go_at_call 45; (with_reducible refine (L3.out _).mono ?_); intro _)))
    all_goals (try ((first | with_reducible refine wp_region_ext2 (by kernel_rfl) (by kernel_rfl) ?_ | refine wp_region_ext (by kernel_rfl) (by kernel_rfl) ?_); (repeat (go_big_quiet_step ((first | (go_at_call 25; with_reducible exact Gives.inRegion (KM.out _)) | (go_at_call 35; with_reducible exact Gives.inRegion (M1.out _)) | (go_at_call 35; with_reducible exact Gives.inRegion (M2.out _)) | (go_at_call 45; with_reducible exact Gives.inRegion (L1.out _)) | (go_at_call 45; with_reducible exact Gives.inRegion (L2.out _)) | (go_at_call 41; with_reducible exact Gives.inRegion (I1.out _)) | (go_at_call 41; with_reducible exact Gives.inRegion (I2.out _)) | (go_at_call 41; with_reducible exact Gives.inRegion (I3.out _)) | (go_at_call 41; with_reducible exact Gives.inRegion (I4.out _)) | (go_at_call 43; with_reducible exact Gives.inRegion (J1.out _)) | (go_at_call 37; with_reducible exact Gives.inRegion (S1.out _)) | (go_at_call 23; with_reducible exact Gives.inRegion (awake_any _)) | (go_at_call 41; with_reducible exact Gives.inRegion (I5.out _)) | (go_at_call 41; with_reducible exact Gives.inRegion (I6.out _)) | (go_at_call 45; with_reducible exact Gives.inRegion (L3.out _)))))); refine wpQuiet_nil ?_; intro _ hw'; obtain ⟨_, hw''⟩ := hw'; subst hw''))
    all_goals (try go_wp2_with (first | (go_at_call 25; (with_reducible refine (KM.out _).mono ?_); intro _) | (go_at_call 35; (with_reducible refine (M1.out _).mono ?_); intro _) | (go_at_call 35; (with_reducible refine (M2.out _).mono ?_); intro _) | (go_at_call 45; (with_reducible refine (L1.out _).mono ?_); intro _) | (go_at_call 45; (with_reducible refine (L2.out _).mono ?_); intro _) | (go_at_call 41; (with_reducible refine (I1.out _).mono ?_); intro _) | (go_at_call 41; (with_reducible refine (I2.out _).mono ?_); intro _) | (go_at_call 41; (with_reducible refine (I3.out _).mono ?_); intro _) | (go_at_call 41; (with_reducible refine (I4.out _).mono ?_); intro _) | (go_at_call 43; (with_reducible refine (J1.out _).mono ?_); intro _) | (go_at_call 37; (with_reducible refine (S1.out _).mono ?_); intro _) | (go_at_call 23; (with_reducible refine (awake_any _).mono ?_); intro _) | (go_at_call 41; (with_reducible refine (I5.out _).mono ?_); intro _) | (go_at_call 41; (with_reducible refine (I6.out _).mono ?_); intro _) | (go_at_call 45; (with_reducible refine (L3.out _).mono ?_); intro _)))
    all_goals (try ((first | with_reducible refine wp_region_ext2 (by kernel_rfl) (by kernel_rfl) ?_ | refine wp_region_ext (by kernel_rfl) (by kernel_rfl) ?_); (repeat (go_big_quiet_step ((first | (go_at_call 25; with_reducible exact Gives.inRegion (KM.out _)) | (go_at_call 35; with_reducible exact Gives.inRegion (M1.out _)) | (go_at_call 35; with_reducible exact Gives.inRegion (M2.out _)) | (go_at_call 45; with_reducible exact Gives.inRegion (L1.out _)) | (go_at_call 45; with_reducible exact Gives.inRegion (L2.out _)) | (go_at_call 41; with_reducible exact Gives.inRegion (I1.out _)) | (go_at_call 41; with_reducible exact Gives.inRegion (I2.out _)) | (go_at_call 41; with_reducible exact Gives.inRegion (I3.out _)) | (go_at_call 41; with_reducible exact Gives.inRegion (I4.out _)) | (go_at_call 43; with_reducible exact Gives.inRegion (J1.out _)) | (go_at_call 37; with_reducible exact Gives.inRegion (S1.out _)) | (go_at_call 23; with_reducible exact Gives.inRegion (awake_any _)) | (go_at_call 41; with_reducible exact Gives.inRegion (I5.out _)) | (go_at_call 41; with_reducible exact Gives.inRegion (I6.out _)) | (go_at_call 45; with_reducible exact Gives.inRegion (L3.out _)))))); refine wpQuiet_nil ?_; intro _ hw'; obtain ⟨_, hw''⟩ := hw'; subst hw''))
    all_goals (try go_wp2_with (first | (go_at_call 25; (with_reducible refine (KM.out _).mono ?_); intro _) | (go_at_call 35; (with_reducible refine (M1.out _).mono ?_); intro _) | (go_at_call 35; (with_reducible refine (M2.out _).mono ?_); intro _) | (go_at_call 45; (with_reducible refine (L1.out _).mono ?_); intro _) | (go_at_call 45; (with_reducible refine (L2.out _).mono ?_); intro _) | (go_at_call 41; (with_reducible refine (I1.out _).mono ?_); intro _) | (go_at_call 41; (with_reducible refine (I2.out _).mono ?_); intro _) | (go_at_call 41; (with_reducible refine (I3.out _).mono ?_); intro _) | (go_at_call 41; (with_reducible refine (I4.out _).mono ?_); intro _) | (go_at_call 43; (with_reducible refine (J1.out _).mono ?_); intro _) | (go_at_call 37; (with_reducible refine (S1.out _).mono ?_); intro _) | (go_at_call 23; (with_reducible refine (awake_any _).mono ?_); intro _) | (go_at_call 41; (with_reducible refine (I5.out _).mono ?_); intro _) | (go_at_call 41; (with_reducible refine (I6.out _).mono ?_); intro _) | (go_at_call 45; (with_reducible refine (L3.out _).mono ?_); intro _)))
    all_goals go_ret
    all_goals exact ⟨rfl, (by repeat (first | with_reducible exact Up.refl _ | apply Up.ext | apply Up.alloc | apply Up.drew | (refine Up.setCell ?_ (by simp; try omega) _)))⟩

set_option maxRecDepth 100000 in
theorem parts_lifted (os : Os) (started : os.Started) (H : Type) (enc : TypeId × Value → H) :
    ReturnsInHanded {} Try.checked os 10 .any (Rows.spanPartsSpec.pre6 enc Try.prog Try.f10 Rows.spanPartsRow.domain false) (Rows.spanPartsSpec.post enc Try.prog Try.f10 false true false false) := by
  refine returnsInHanded_of_change (C := Try.checked) knob_own started (by kernel_rfl) Try.func10
    (ChangeSpec.witness6 (enc := enc) (C := Try.checked) false ⟨#[], #[.slice none 0 0, .int .i64 0], []⟩ 8 (by kernel_rfl) (by kernel_rfl) (by kernel_rfl) (by kernel_rfl)) ?_
  intro W base args ds gs before hval0 hW _ _
  have hval : ∀ (j : Nat) t v, Try.f10.params[j]? = some t → args[j]? = some v → Value.okWide Try.prog W .any base t v := hval0
  have hW' := hW
  obtain ⟨p, q, hA0, hV, rfl, _, _⟩ := hW
  have hA : DataW.TrodAll enc Try.prog W 0 (fun _ => true) true Try.f10.params.toList args.toList ds p := hA0
  rw [Try.params10] at hA hval
  obtain ⟨v0, vs0, d0, ds0, p0, q0, hargs, rfl, rfl, h0, r0⟩ := trodAll_cons hA
  obtain ⟨v1, vs1, d1, ds1, p1, q1, rfl, rfl, rfl, h1, r1⟩ := trodAll_cons r0
  obtain ⟨rfl, rfl, rfl⟩ := trodAll_nil r1
  obtain rfl : args = #[v0, v1] := by cases args; simp_all
  obtain ⟨rfl, rfl⟩ := trodVars_none hV
  have hlt0 : ∀ x ∈ p0, x.block < W.heap.size := fun x hx => hW'.lt x (by simp [hx])
  obtain ⟨hn0, shut0⟩ := open_nums (hval 0 55 v0 rfl rfl) h0 hlt0
  obtain ⟨a1, rfl, rfl, rfl, w1⟩ := open_int Try.underlying2 (hval 1 2 v1 rfl rfl) h1
  clear hA0 hval0
  simp only [List.append_nil] at hW'
  refine (parts_law v0 hn0 a1 (i64_bds w1) ).mono fun px => ?_
  exact ⟨_, rfl, post_of_below (pa := (p0 ++ (([] : List MemPlace) ++ []))) (pv := []) hW' (fun _ _ _ => (trodAll_cons_mk (shut_bool Try.underlying4 _) trodAll_mk0)) (fun sp hsp => (trodAll_cons_mk (shut0 _ sp (Up.below ⟨px, rfl⟩) (fun x hx => hsp x (by simp [hx]))) (trodAll_cons_mk (shut_int Try.underlying2 w1) trodAll_mk0))) (fun _ _ => rfl) (by simp)
    (Up.below ⟨px, rfl⟩) (ok_one (by kernel_rfl) rfl (okWide_bool_mk Try.underlying4 _))⟩

theorem parts_holds : Rows.SpanPartsSaid :=
  OpenClaim.holds_of_wide 10 Try.f10 rfl rfl rfl rfl rfl rfl rfl ⟨rfl, rfl, rfl, rfl, rfl⟩ rfl rfl rfl rfl rfl (by kernel_rfl) Try.func10 (by kernel_rfl)
    (of_decide_eq_true (by kernel_rfl)) (by unfold Func.isWrapper; rw [if_neg (by decide +kernel)]; exact ⟨rfl, rfl⟩)
    (fun os started H enc _ => parts_lifted os started H enc)
#print axioms parts_holds
end Go.Proofs.Ytfpdnmfklmgmfaa
