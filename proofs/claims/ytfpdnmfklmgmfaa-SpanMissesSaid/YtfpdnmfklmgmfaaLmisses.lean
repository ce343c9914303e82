/- SpanMisses returns true for every input: a segment comes within a radius in either order, and within each greater one, if one of its ends does, and just within what it misses by. No conditions. -/
import Derived.Test.YtfpdnmfklmgmfaaPost
import Derived.Test.YtfpdnmfklmgmfaaModk
import Derived.Test.YtfpdnmfklmgmfaaTail
import Derived.Test.YtfpdnmfklmgmfaaAwake
import Derived.JoinedOf
import Derived.JoinedAt
import Derived.ChangeSame
import Derived.OpenShut
namespace Go.Proofs.Ytfpdnmfklmgmfaa
open Go.RowKit Go.ChangeShapes Go.WideShapes Go.ChangeAt Go.Joins

def sm (n : Int) : Int := -2000 + n % 4001
theorem sm_bd (n : Int) : -2000 ≤ sm n ∧ sm n ≤ 2000 := by unfold sm; omega
theorem small_any (x y : Int) (hx : -9223372036854775808 ≤ x ∧ x ≤ 9223372036854775807) (hy : -9223372036854775808 ≤ y ∧ y ≤ 9223372036854775807) (w : World) :
    Gives Try.prog 24 #[.agg #[.int .i64 x, .int .i64 y]] w (.agg #[.int .i64 (sm x), .int .i64 (sm y)]) := by
  obtain ⟨x0, x1⟩ := hx
  obtain ⟨y0, y1⟩ := hy
  (unfold Gives; go_enter Try.func24, Try.ntmps24)
  go_wp2
  ((first | with_reducible refine wp_region_ext_tail2 1 (by kernel_rfl) (by kernel_rfl) ?_ | refine wp_region_ext_tail 1 (by kernel_rfl) (by kernel_rfl) ?_); simp only [List.length_cons, List.length_nil, Nat.reduceAdd, Nat.reduceSub, List.take_succ_cons, List.take_zero, List.drop_succ_cons, List.drop_zero]; (repeat (go_big_quiet_step ((go_at_call 25; exact Gives.inRegion (mod64_any _ _ (by omega) (by omega) (by omega) (by omega) _))))); refine wpQuiet_nil ?_; intro _ hw'; obtain ⟨_, hw''⟩ := hw'; subst hw'')
  go_wp2
  all_goals (refine bodyPost_give (by repeat (first | with_reducible exact Up.refl _ | apply Up.ext | apply Up.alloc | apply Up.drew | (refine Up.setCell ?_ (by simp; try omega) _))) rfl ⟨_, (by simp [results, Try.results24, go_sem]; rfl), ?_⟩)
  all_goals rfl

/-- all that a segment within 2000 does, by one number T -/
theorem seg_facts (a b c d : Int) (ha : -2000 ≤ a ∧ a ≤ 2000) (hb : -2000 ≤ b ∧ b ≤ 2000) (hc : -2000 ≤ c ∧ c ≤ 2000) (hd : -2000 ≤ d ∧ d ≤ 2000) :
    ∃ T : Int, 0 ≤ T ∧ T ≤ 4000 ∧ missV a b c d = T ∧ missV c d a b = T ∧ (∀ r : Int, 0 ≤ r → r ≤ 268435456 → withinS a b c d r = decide (T ≤ r)) ∧ (∀ r : Int, 0 ≤ r → r ≤ 268435456 → withinS c d a b r = decide (T ≤ r)) ∧
      (∀ r, nearB a b r = true → T ≤ r) ∧ (∀ r, nearB c d r = true → T ≤ r) := by
  have hab : farV (a, b) = true := (farV_iff _).2 ⟨by simp only; omega, by simp only; omega⟩
  have hcd : farV (c, d) = true := (farV_iff _).2 ⟨by simp only; omega, by simp only; omega⟩
  obtain ⟨t1, t2, t3⟩ := bis_comes a b c d
  have hfun : comesB c d a b = comesB a b c d := funext fun r => comes_swap a b c d r
  obtain ⟨T, hT⟩ : ∃ T, bis (comesB a b c d) 0 536870912 = T := ⟨_, rfl⟩
  simp only [hT] at t1 t2 t3
  have h4000 : comesB a b c d 4000 = true := comes_p (by
    have h1 := mul_bd (x := a) (y := a) (B := 2000) (C := 2000) (by omega) (by omega) (by omega) (by omega)
    have h2 := mul_bd (x := b) (y := b) (B := 2000) (C := 2000) (by omega) (by omega) (by omega) (by omega)
    unfold sqV; omega)
  have hT4 : T ≤ 4000 := by
    rcases Nat.lt_or_ge 4000 T with h | h
    · have := t2 4000 h
      rw [show ((4000 : Nat) : Int) = 4000 from rfl, h4000] at this; cases this
    · exact h
  have key : ∀ r : Int, 0 ≤ r → comesB a b c d r = decide ((T : Int) ≤ r) := fun r hr => by
    by_cases h : (T : Int) ≤ r
    · rw [t3 (by omega) r h, decide_eq_true h]
    · obtain ⟨x, rfl⟩ := Int.eq_ofNat_of_zero_le hr
      rw [t2 x (by omega), decide_eq_false h]
  refine ⟨T, by omega, by omega, ?_, ?_, ?_, ?_, ?_, ?_⟩
  · unfold missV asks2B; rw [hab, hcd, hT]; rfl
  · unfold missV asks2B; rw [hab, hcd, hfun, hT]; rfl
  · intro r h0 h1
    unfold withinS asks2B
    rw [hab, hcd, show withinB r 0 268435456 = true by simp [withinB]; omega, key r h0]; rfl
  · intro r h0 h1
    unfold withinS asks2B
    rw [hab, hcd, show withinB r 0 268435456 = true by simp [withinB]; omega, hfun, key r h0]; rfl
  · intro r h
    unfold nearB at h
    simp only [Bool.and_eq_true, decide_eq_true_eq, withinB] at h
    have := key r (by omega)
    rw [comes_p h.2] at this
    simpa using this.symm
  · intro r h
    unfold nearB at h
    simp only [Bool.and_eq_true, decide_eq_true_eq, withinB] at h
    have := key r (by omega)
    rw [comes_q h.2] at this
    simpa using this.symm

set_option maxHeartbeats 2000000 in
theorem misses_law (px py qx qy r0 more0 : Int) (hpx : -9223372036854775808 ≤ px ∧ px ≤ 9223372036854775807) (hpy : -9223372036854775808 ≤ py ∧ py ≤ 9223372036854775807) (hqx : -9223372036854775808 ≤ qx ∧ qx ≤ 9223372036854775807) (hqy : -9223372036854775808 ≤ qy ∧ qy ≤ 9223372036854775807)
    (hr0 : -9223372036854775808 ≤ r0 ∧ r0 ≤ 9223372036854775807) (hm0 : -9223372036854775808 ≤ more0 ∧ more0 ≤ 9223372036854775807) (w : World) :
    Gives Try.prog 4 #[.agg #[.int .i64 px, .int .i64 py], .agg #[.int .i64 qx, .int .i64 qy], .int .i64 r0, .int .i64 more0] w (.bool true) := by
  obtain ⟨a, ha⟩ : ∃ a, sm px = a := ⟨_, rfl⟩
  obtain ⟨b, hb⟩ : ∃ a, sm py = a := ⟨_, rfl⟩
  obtain ⟨c, hc⟩ : ∃ a, sm qx = a := ⟨_, rfl⟩
  obtain ⟨d, hd⟩ : ∃ a, sm qy = a := ⟨_, rfl⟩
  have ba := sm_bd px
  have bb := sm_bd py
  have bc := sm_bd qx
  have bd := sm_bd qy
  have S1 := fun w => small_any px py hpx hpy w
  have S2 := fun w => small_any qx qy hqx hqy w
  rw [ha, hb] at S1
  rw [hc, hd] at S2
  rw [ha] at ba
  rw [hb] at bb
  rw [hc] at bc
  rw [hd] at bd
  obtain ⟨T, T0, T1, e1, e2, e3, e4, e5, e6⟩ := seg_facts a b c d ba bb bc bd
  obtain ⟨r, hr⟩ : ∃ r, r0 % 3000 = r := ⟨_, rfl⟩
  obtain ⟨m, hm⟩ : ∃ m, more0 % 100 = m := ⟨_, rfl⟩
  have M1 := fun w => mod64_any r0 3000 hr0.1 hr0.2 (by omega) (by omega) w
  have M2 := fun w => mod64_any more0 100 hm0.1 hm0.2 (by omega) (by omega) w
  rw [hr] at M1
  rw [hm] at M2
  have r1 : 0 ≤ r := by omega
  have r2 : r < 3000 := by omega
  have m1 : 0 ≤ m := by omega
  have m2 : m < 100 := by omega
  have W1 := fun w => within_seg a b c d r w
  rw [e3 r (by omega) (by omega)] at W1
  have W2 := fun w => within_seg c d a b r w
  rw [e4 r (by omega) (by omega)] at W2
  have W3 := fun w => within_seg a b c d (r + m) w
  rw [e3 (r + m) (by omega) (by omega)] at W3
  have W4 := fun w => within_seg a b c d T w
  rw [e3 T (by omega) (by omega), decide_eq_true (by omega)] at W4
  have W5 := fun w => within_seg a b c d (T - 1) w
  have F5 := e3
  have X1 := fun w => miss_any a b c d w
  rw [e1] at X1
  have X2 := fun w => miss_any c d a b w
  rw [e2] at X2
  have N1 := fun w => near_any a b r w
  have N2 := fun w => near_any c d r w
  have E5 := e5 r
  have E6 := e6 r
  obtain ⟨n1, hn1⟩ : ∃ n, nearB a b r = n := ⟨_, rfl⟩
  obtain ⟨n2, hn2⟩ : ∃ n, nearB c d r = n := ⟨_, rfl⟩
  rw [hn1] at N1 E5
  rw [hn2] at N2 E6
  clear ha hb hc hd hr hm hn1 hn2 e1 e2 e3 e4 e5 e6 hpx hpy hqx hqy hr0 hm0
  obtain ⟨ba0, ba1⟩ := ba
  obtain ⟨bb0, bb1⟩ := bb
  obtain ⟨bc0, bc1⟩ := bc
  obtain ⟨bd0, bd1⟩ := bd
  have hZ : T = 0 ∨ ((T == 0) = false ∧ 1 ≤ T ∧ ∀ w, Gives Try.prog 19 #[.agg #[.int .i64 a, .int .i64 b], .agg #[.int .i64 c, .int .i64 d], .int .i64 (T - 1)] w (.bool false)) := by
    by_cases hT : T = 0
    · exact .inl hT
    · refine .inr ⟨by simp [hT], by omega, fun w => ?_⟩
      have := W5 w
      rw [F5 (T - 1) (by omega) (by omega), decide_eq_false (by omega)] at this
      exact this
  clear W5
  have H1 := hide S1
  have H2 := hide S2
  have H3 := hide M1
  have H4 := hide M2
  have H8 := hide W4
  have H9 := hide X1
  have H10 := hide X2
  clear S1 S2 M1 M2 W4 X1 X2
  by_cases hT : T ≤ r
  · rw [decide_eq_true hT] at W1 W2
    rw [decide_eq_true (show T ≤ r + m by omega)] at W3
    clear E5 E6
    have H5 := hide W1
    have H6 := hide W2
    have H7 := hide W3
    have H11 := hide N1
    have H12 := hide N2
    clear W1 W2 W3 N1 N2 F5
    rcases hZ with rfl | ⟨hZ1, hZ2, hZ3⟩
    · cases n1 <;> cases n2
      all_goals ((unfold Gives; go_enter Try.func4, Try.ntmps4); go_wp2; ((first | with_reducible refine wp_region_ext_tail2 2 (by kernel_rfl) (by kernel_rfl) ?_ | refine wp_region_ext_tail 2 (by kernel_rfl) (by kernel_rfl) ?_); simp only [List.length_cons, List.length_nil, Nat.reduceAdd, Nat.reduceSub, List.take_succ_cons, List.take_zero, List.drop_succ_cons, List.drop_zero]; (repeat (go_big_quiet_step ((first | (go_at_call 24; with_reducible exact Gives.inRegion (H1.out _)) | (go_at_call 24; with_reducible exact Gives.inRegion (H2.out _)))))); refine wpQuiet_nil ?_; intro _ hw'; obtain ⟨_, hw''⟩ := hw'; subst hw''); go_wp2_with (first | (go_at_call 25; (with_reducible refine (H3.out _).mono ?_); intro _) | (go_at_call 25; (with_reducible refine (H4.out _).mono ?_); intro _) | (go_at_call 19; (with_reducible refine (H5.out _).mono ?_); intro _) | (go_at_call 19; (with_reducible refine (H6.out _).mono ?_); intro _) | (go_at_call 19; (with_reducible refine (H7.out _).mono ?_); intro _) | (go_at_call 19; (with_reducible refine (H8.out _).mono ?_); intro _) | (go_at_call 17; (with_reducible refine (H11.out _).mono ?_); intro _) | (go_at_call 17; (with_reducible refine (H12.out _).mono ?_); intro _) | (go_at_call 21; (with_reducible refine (H9.out _).mono ?_); intro _) | (go_at_call 21; (with_reducible refine (H10.out _).mono ?_); intro _) | (go_at_call 23; (with_reducible refine (awake_any _).mono ?_); intro _)); go_ret; refine ⟨ret_bool ?_, (by repeat (first | with_reducible exact Up.refl _ | apply Up.ext | apply Up.alloc | apply Up.drew | (refine Up.setCell ?_ (by simp; try omega) _)))⟩; (first | rfl | (simp; omega)))
    · have H13 := hide hZ3
      clear hZ3
      cases n1 <;> cases n2
      all_goals ((unfold Gives; go_enter Try.func4, Try.ntmps4); go_wp2; ((first | with_reducible refine wp_region_ext_tail2 2 (by kernel_rfl) (by kernel_rfl) ?_ | refine wp_region_ext_tail 2 (by kernel_rfl) (by kernel_rfl) ?_); simp only [List.length_cons, List.length_nil, Nat.reduceAdd, Nat.reduceSub, List.take_succ_cons, List.take_zero, List.drop_succ_cons, List.drop_zero]; (repeat (go_big_quiet_step ((first | (go_at_call 24; with_reducible exact Gives.inRegion (H1.out _)) | (go_at_call 24; with_reducible exact Gives.inRegion (H2.out _)))))); refine wpQuiet_nil ?_; intro _ hw'; obtain ⟨_, hw''⟩ := hw'; subst hw''); go_wp2_with (first | (go_at_call 25; (with_reducible refine (H3.out _).mono ?_); intro _) | (go_at_call 25; (with_reducible refine (H4.out _).mono ?_); intro _) | (go_at_call 19; (with_reducible refine (H5.out _).mono ?_); intro _) | (go_at_call 19; (with_reducible refine (H6.out _).mono ?_); intro _) | (go_at_call 19; (with_reducible refine (H7.out _).mono ?_); intro _) | (go_at_call 19; (with_reducible refine (H8.out _).mono ?_); intro _) | (go_at_call 17; (with_reducible refine (H11.out _).mono ?_); intro _) | (go_at_call 17; (with_reducible refine (H12.out _).mono ?_); intro _) | (go_at_call 21; (with_reducible refine (H9.out _).mono ?_); intro _) | (go_at_call 21; (with_reducible refine (H10.out _).mono ?_); intro _) | (go_at_call 23; (with_reducible refine (awake_any _).mono ?_); intro _) | (go_at_call 19; (with_reducible refine (H13.out _).mono ?_); intro _)); go_ret; refine ⟨ret_bool ?_, (by repeat (first | with_reducible exact Up.refl _ | apply Up.ext | apply Up.alloc | apply Up.drew | (refine Up.setCell ?_ (by simp; try omega) _)))⟩; (first | rfl | (simp; omega)))
  · rw [decide_eq_false hT] at W1 W2
    have f1 : n1 = false := by cases n1; rfl; exact absurd (E5 rfl) hT
    have f2 : n2 = false := by cases n2; rfl; exact absurd (E6 rfl) hT
    subst f1 f2
    have hT' : r < T := by omega
    clear E5 E6 hT
    have H5 := hide W1
    have H6 := hide W2
    have H7 := hide W3
    have H11 := hide N1
    have H12 := hide N2
    clear W1 W2 W3 N1 N2 F5
    rcases hZ with rfl | ⟨hZ1, hZ2, hZ3⟩
    · exact absurd r1 (by omega)
    · have H13 := hide hZ3
      clear hZ3
      ((unfold Gives; go_enter Try.func4, Try.ntmps4); go_wp2; ((first | with_reducible refine wp_region_ext_tail2 2 (by kernel_rfl) (by kernel_rfl) ?_ | refine wp_region_ext_tail 2 (by kernel_rfl) (by kernel_rfl) ?_); simp only [List.length_cons, List.length_nil, Nat.reduceAdd, Nat.reduceSub, List.take_succ_cons, List.take_zero, List.drop_succ_cons, List.drop_zero]; (repeat (go_big_quiet_step ((first | (go_at_call 24; with_reducible exact Gives.inRegion (H1.out _)) | (go_at_call 24; with_reducible exact Gives.inRegion (H2.out _)))))); refine wpQuiet_nil ?_; intro _ hw'; obtain ⟨_, hw''⟩ := hw'; subst hw''); go_wp2_with (first | (go_at_call 25; (with_reducible refine (H3.out _).mono ?_); intro _) | (go_at_call 25; (with_reducible refine (H4.out _).mono ?_); intro _) | (go_at_call 19; (with_reducible refine (H5.out _).mono ?_); intro _) | (go_at_call 19; (with_reducible refine (H6.out _).mono ?_); intro _) | (go_at_call 19; (with_reducible refine (H7.out _).mono ?_); intro _) | (go_at_call 19; (with_reducible refine (H8.out _).mono ?_); intro _) | (go_at_call 17; (with_reducible refine (H11.out _).mono ?_); intro _) | (go_at_call 17; (with_reducible refine (H12.out _).mono ?_); intro _) | (go_at_call 21; (with_reducible refine (H9.out _).mono ?_); intro _) | (go_at_call 21; (with_reducible refine (H10.out _).mono ?_); intro _) | (go_at_call 23; (with_reducible refine (awake_any _).mono ?_); intro _) | (go_at_call 19; (with_reducible refine (H13.out _).mono ?_); intro _)); go_ret; refine ⟨ret_bool ?_, (by repeat (first | with_reducible exact Up.refl _ | apply Up.ext | apply Up.alloc | apply Up.drew | (refine Up.setCell ?_ (by simp; try omega) _)))⟩; (first | rfl | (simp; omega)))

set_option maxRecDepth 100000 in
theorem misses_lifted (os : Os) (started : os.Started) (H : Type) (enc : TypeId × Value → H) :
    ReturnsInHanded {} Try.checked os 4 .any (Rows.spanMissesSpec.pre6 enc Try.prog Try.f4 Rows.spanMissesRow.domain false) (Rows.spanMissesSpec.post enc Try.prog Try.f4 false true false false) := by
  refine returnsInHanded_of_change (C := Try.checked) knob_own started (by kernel_rfl) Try.func4
    (ChangeSpec.witness6 (enc := enc) (C := Try.checked) false ⟨#[], #[.agg #[.int .i64 0, .int .i64 0], .agg #[.int .i64 0, .int .i64 0], .int .i64 0, .int .i64 0], []⟩ 8 (by kernel_rfl) (by kernel_rfl) (by kernel_rfl) (by kernel_rfl)) ?_
  intro W base args ds gs before hval0 hW _ _
  have hval : ∀ (j : Nat) t v, Try.f4.params[j]? = some t → args[j]? = some v → Value.okWide Try.prog W .any base t v := hval0
  have hW' := hW
  obtain ⟨p, q, hA0, hV, rfl, _, _⟩ := hW
  have hA : DataW.TrodAll enc Try.prog W 0 (fun _ => true) true Try.f4.params.toList args.toList ds p := hA0
  rw [Try.params4] at hA hval
  obtain ⟨v0, vs0, d0, ds0, p0, q0, hargs, rfl, rfl, h0, r0⟩ := trodAll_cons hA
  obtain ⟨v1, vs1, d1, ds1, p1, q1, rfl, rfl, rfl, h1, r1⟩ := trodAll_cons r0
  obtain ⟨v2, vs2, d2, ds2, p2, q2, rfl, rfl, rfl, h2, r2⟩ := trodAll_cons r1
  obtain ⟨v3, vs3, d3, ds3, p3, q3, rfl, rfl, rfl, h3, r3⟩ := trodAll_cons r2
  obtain ⟨rfl, rfl, rfl⟩ := trodAll_nil r3
  obtain rfl : args = #[v0, v1, v2, v3] := by cases args; simp_all
  obtain ⟨rfl, rfl⟩ := trodVars_none hV
  obtain ⟨x0, y0, rfl, rfl, rfl, wx0, wy0⟩ := open_vec (hval 0 23 v0 rfl rfl) h0
  obtain ⟨x1, y1, rfl, rfl, rfl, wx1, wy1⟩ := open_vec (hval 1 23 v1 rfl rfl) h1
  obtain ⟨a2, rfl, rfl, rfl, w2⟩ := open_int Try.underlying2 (hval 2 2 v2 rfl rfl) h2
  obtain ⟨a3, rfl, rfl, rfl, w3⟩ := open_int Try.underlying2 (hval 3 2 v3 rfl rfl) h3
  clear hA0 hval0
  simp only [List.append_nil] at hW'
  refine (misses_law x0 y0 x1 y1 a2 a3 (i64_bds wx0) (i64_bds wy0) (i64_bds wx1) (i64_bds wy1) (i64_bds w2) (i64_bds w3) W).mono fun px => ?_
  exact ⟨_, rfl, post_of_below (pa := []) (pv := []) hW' (fun _ _ _ => (trodAll_cons_mk (shut_bool Try.underlying4 _) trodAll_mk0)) (fun sp _ => (trodAll_cons_mk (shut_vec wx0 wy0) (trodAll_cons_mk (shut_vec wx1 wy1) (trodAll_cons_mk (shut_int Try.underlying2 w2) (trodAll_cons_mk (shut_int Try.underlying2 w3) trodAll_mk0))))) (fun _ _ => rfl) rfl
    (Up.below ⟨px, rfl⟩) (ok_one (by kernel_rfl) rfl (okWide_bool_mk Try.underlying4 _))⟩

theorem misses_holds : Rows.SpanMissesSaid :=
  OpenClaim.holds_of_wide 4 Try.f4 rfl rfl rfl rfl rfl rfl rfl ⟨rfl, rfl, rfl, rfl, rfl⟩ rfl rfl rfl rfl rfl (by kernel_rfl) Try.func4 (by kernel_rfl)
    (of_decide_eq_true (by kernel_rfl)) (by unfold Func.isWrapper; rw [if_neg (by decide +kernel)]; exact ⟨rfl, rfl⟩)
    (fun os started H enc _ => misses_lifted os started H enc)
#print axioms misses_holds
end Go.Proofs.Ytfpdnmfklmgmfaa
