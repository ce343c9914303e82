/- SpanGrows returns true for every input: results for spans inside others lie inside the results for these. No conditions. -/
import Derived.Test.YtfpdnmfklmgmfaaPostn
import Derived.Test.YtfpdnmfklmgmfaaGrow
import Derived.Test.YtfpdnmfklmgmfaaAwake
import Derived.JoinedOf
import Derived.JoinedAt
import Derived.ChangeSame
import Derived.OpenShut
import Derived.Deep.RegionHeld3
import Derived.Deep.DeepCutAuto
namespace Go.Proofs.Ytfpdnmfklmgmfaa
open Go.RowKit Go.ChangeShapes Go.WideShapes Go.ChangeAt Go.Joins


set_option maxRecDepth 100000 in
set_option maxHeartbeats 100000000 in
theorem grow_law (v0 : Value) {w : World} (hN : Nums w v0) (by1 more : Int) (hb : -9223372036854775808 ≤ by1 ∧ by1 ≤ 9223372036854775807) (hm : -9223372036854775808 ≤ more ∧ more ≤ 9223372036854775807) :
    Gives Try.prog 16 #[v0, .int .i64 by1, .int .i64 more] w (.bool true) := by
  obtain ⟨sa, sn, sc, rfl⟩ := hN.form
  have KR := hide (fun t W hu hb t0 t1 => range_any w _ hN w.heap.size t (-900) 900 W hu hb (Nat.le_refl _) t0 t1 (by omega) (by omega) (by omega))
  have KS := hide (fun t about W hu hb t0 t1 a0 a1 => spanof_any w _ hN w.heap.size t about 90 W hu hb (Nat.le_refl _) t0 t1 a0 a1 (by omega) (by omega))
  have HB := hide hb
  have HM := hide hm
  clear hN hb hm
  (unfold Gives; go_enter Try.func16, Try.ntmps16)
  go_wp2_with fail
  refine (newring_any _ _ _ _).mono ?_
  rintro _ _ ⟨rfl, rfl⟩
  go_wp2_with fail
  refine (KR.out _ _ (by repeat (first | with_reducible exact Up.refl _ | apply Up.ext | apply Up.alloc | apply Up.drew | (refine Up.setCell ?_ (by simp; try omega) _))) (by repeat (first | exact Box.mk rfl | exact Box.mk (by simp) | apply Box.ext | apply Box.drew | apply Box.alloc | apply Box.two1 | (refine Box.other ?_ (by omega) _ _))) (by omega) (by omega)).mono ?_
  rintro _ _ ⟨e, pe, e0, e1, rfl, rfl⟩
  go_wp2_with fail
  refine (KS.out _ _ _ (by repeat (first | with_reducible exact Up.refl _ | apply Up.ext | apply Up.alloc | apply Up.drew | (refine Up.setCell ?_ (by simp; try omega) _))) (by repeat (first | exact Box.mk rfl | exact Box.mk (by simp) | apply Box.ext | apply Box.drew | apply Box.alloc | apply Box.two1 | (refine Box.other ?_ (by omega) _ _))) (by omega) (by omega) (by omega) (by omega)).mono ?_
  rintro _ _ ⟨a, b, pa, a0, a1, a2, a3, rfl, rfl⟩
  go_wp2_with fail
  refine (KR.out _ _ (by repeat (first | with_reducible exact Up.refl _ | apply Up.ext | apply Up.alloc | apply Up.drew | (refine Up.setCell ?_ (by simp; try omega) _))) (by repeat (first | exact Box.mk rfl | exact Box.mk (by simp) | apply Box.ext | apply Box.drew | apply Box.alloc | apply Box.two1 | (refine Box.other ?_ (by omega) _ _))) (by omega) (by omega)).mono ?_
  rintro _ _ ⟨f, pf, f0, f1, rfl, rfl⟩
  go_wp2_with fail
  refine (KS.out _ _ _ (by repeat (first | with_reducible exact Up.refl _ | apply Up.ext | apply Up.alloc | apply Up.drew | (refine Up.setCell ?_ (by simp; try omega) _))) (by repeat (first | exact Box.mk rfl | exact Box.mk (by simp) | apply Box.ext | apply Box.drew | apply Box.alloc | apply Box.two1 | (refine Box.other ?_ (by omega) _ _))) (by omega) (by omega) (by omega) (by omega)).mono ?_
  rintro _ _ ⟨c, d, pc, c0, c1, c2, c3, rfl, rfl⟩
  have W1 := hide (fun W => wider_any a b by1 2000 (by omega) (by omega) HB.out (by omega) (by omega) W)
  have W2 := hide (fun W => wider_any c d more 2000 (by omega) (by omega) HM.out (by omega) (by omega) W)
  obtain ⟨u1, hu1, _, _⟩ : ∃ u, by1 % 50 = u ∧ 0 ≤ u ∧ u < 50 := ⟨_, rfl, by omega, by omega⟩
  obtain ⟨u2, hu2, _, _⟩ : ∃ u, by1 % 70 = u ∧ 0 ≤ u ∧ u < 70 := ⟨_, rfl, by omega, by omega⟩
  obtain ⟨u3, hu3, _, _⟩ : ∃ u, more % 50 = u ∧ 0 ≤ u ∧ u < 50 := ⟨_, rfl, by omega, by omega⟩
  obtain ⟨u4, hu4, _, _⟩ : ∃ u, more % 70 = u ∧ 0 ≤ u ∧ u < 70 := ⟨_, rfl, by omega, by omega⟩
  rw [hu1, hu2] at W1
  rw [hu3, hu4] at W2
  clear hu1 hu2 hu3 hu4
  obtain ⟨A, hA, A0, A1⟩ : ∃ A, max (-2000) (a - u1) = A ∧ -2000 ≤ A ∧ A ≤ a := ⟨_, rfl, by omega, by omega⟩
  obtain ⟨B, hB, B0, B1⟩ : ∃ B, min 2000 (b + u2) = B ∧ b ≤ B ∧ B ≤ 2000 := ⟨_, rfl, by omega, by omega⟩
  obtain ⟨C, hC, C0, C1⟩ : ∃ C, max (-2000) (c - u3) = C ∧ -2000 ≤ C ∧ C ≤ c := ⟨_, rfl, by omega, by omega⟩
  obtain ⟨D, hD, D0, D1⟩ : ∃ D, min 2000 (d + u4) = D ∧ d ≤ D ∧ D ≤ 2000 := ⟨_, rfl, by omega, by omega⟩
  rw [hA, hB] at W1
  rw [hC, hD] at W2
  clear hA hB hC hD
  obtain ⟨q1, q2, q3, q4, q5, q6⟩ := grow_sums A0 A1 a2 B0 B1 C0 C1 c2 D0 D1
  obtain ⟨g1, g2, g3, g4, q7, q8, q9⟩ := grow_mul A0 A1 a2 B0 B1 C0 C1 c2 D0 D1
  obtain ⟨h1, h2, h3, h4, q10, q11, q12⟩ := grow_square A0 A1 a2 B0 B1
  have HQ := hide (grow_quot A0 A1 a2 B0 B1 C0 C1 c2 D0 D1)
  have HR := hide (grow_roots A0 A1 a2 B0 B1)
  have S1 := fun W => add_any a b c d W
  rw [q1] at S1
  simp only at S1
  have S1 := hide S1
  have S2 := fun W => add_any A B C D W
  rw [q2] at S2
  simp only at S2
  have S2 := hide S2
  have S3 := fun W => inside_any (a + c) (b + d) (A + C) (B + D) W
  rw [q3] at S3
  have S3 := hide S3
  have S4 := fun W => sub_any a b c d W
  rw [q4] at S4
  simp only at S4
  have S4 := hide S4
  have S5 := fun W => sub_any A B C D W
  rw [q5] at S5
  simp only at S5
  have S5 := hide S5
  have S6 := fun W => inside_any (a - d) (b - c) (A - D) (B - C) W
  rw [q6] at S6
  have S6 := hide S6
  have S7 := fun W => mul_any a b c d W
  rw [q7] at S7
  simp only at S7
  have S7 := hide S7
  have S8 := fun W => mul_any A B C D W
  rw [q8] at S8
  simp only at S8
  have S8 := hide S8
  have S9 := fun W => inside_any g1 g2 g3 g4 W
  rw [q9] at S9
  have S9 := hide S9
  have S10 := fun W => square_any a b W
  rw [q10] at S10
  simp only at S10
  have S10 := hide S10
  have S11 := fun W => square_any A B W
  rw [q11] at S11
  simp only at S11
  have S11 := hide S11
  have S12 := fun W => inside_any h1 h2 h3 h4 W
  rw [q12] at S12
  have S12 := hide S12
  clear q1 q2 q3 q4 q5 q6 q7 q8 q9 q10 q11 q12 KR KS HB HM
  go_upto_region 3 with fail
  generalize (((pe.plus pa).plus pf).plus pc) = px
  refine wp_forget (fun wy => Up w wy ∧ Box wy (w.heap.size + 1 + px.os.size) #[.int .i64 a, .int .i64 b] 34 ∧ Box wy (w.heap.size + 1 + px.os.size + 1) #[.int .i64 c, .int .i64 d] 34) ⟨(by repeat (first | with_reducible exact Up.refl _ | apply Up.ext | apply Up.alloc | apply Up.drew | (refine Up.setCell ?_ (by simp; try omega) _))), (by repeat (first | exact Box.mk rfl | exact Box.mk (by simp) | apply Box.ext | apply Box.drew | apply Box.alloc | (refine Box.other ?_ (by omega) _ _))), (by repeat (first | exact Box.mk rfl | exact Box.mk (by simp) | apply Box.ext | apply Box.drew | apply Box.alloc | (refine Box.other ?_ (by omega) _ _)))⟩ (fun wy hwy => ?_)
  obtain ⟨hu, xa, xb⟩ := hwy
  have hab : w.heap.size + 1 + px.os.size ≠ w.heap.size + 1 + px.os.size + 1 := by omega
  have hba : w.heap.size + 1 + px.os.size + 1 ≠ w.heap.size + 1 + px.os.size := by omega
  have hwa : w.heap.size ≤ w.heap.size + 1 + px.os.size := by omega
  have hwb : w.heap.size ≤ w.heap.size + 1 + px.os.size + 1 := by omega
  generalize w.heap.size + 1 + px.os.size + 1 = gb at *
  generalize w.heap.size + 1 + px.os.size = ga at *
  have la := xa.lt
  have lb := xb.lt
  have HU := hide hu
  have XA := hide xa
  have XB := hide xb
  clear hu xa xb
  go_cut [10, 11] (fun s10 s11 wx => ∃ g h : Nat, s10 = .pointer (some ⟨g, 0, none⟩) ∧ s11 = .pointer (some ⟨h, 0, none⟩) ∧ Hid (wy.heap.size ≤ g ∧ wy.heap.size ≤ h ∧ g ≠ h ∧ Up wy wx ∧ Box wx g #[.int .i64 A, .int .i64 B] 34 ∧ Box wx h #[.int .i64 C, .int .i64 D] 34))
  case first =>
    go_region_held3 (fun W => (W.cell? ⟨ga, 0, none⟩ = some (.int .i64 a) ∧ W.cell? ⟨ga, 1, none⟩ = some (.int .i64 b)) ∧ W.cell? ⟨gb, 0, none⟩ = some (.int .i64 c) ∧ W.cell? ⟨gb, 1, none⟩ = some (.int .i64 d)) (exact ⟨Box.two (by repeat (first | exact XA.out | exact Box.mk rfl | exact Box.mk (by simp) | apply Box.ext | apply Box.drew | apply Box.alloc | (refine Box.other ?_ (by omega) _ _))), Box.two (by repeat (first | exact XB.out | exact Box.mk rfl | exact Box.mk (by simp) | apply Box.ext | apply Box.drew | apply Box.alloc | (refine Box.other ?_ (by omega) _ _)))⟩)
      (first | (go_at_call 71; (with_reducible refine (W1.out _).mono ?_); intro pi) | (go_at_call 71; (with_reducible refine (W2.out _).mono ?_); intro pi))
    all_goals (go_wp2_with fail; go_meet)
    all_goals (case rel => exact ⟨_, _, rfl, rfl, hide ⟨by omega, by omega, by omega, (by repeat (first | with_reducible exact Up.refl _ | apply Up.ext | apply Up.alloc | apply Up.drew | (refine Up.setCell ?_ (by simp; try omega) _))), (by repeat (first | exact Box.mk rfl | exact Box.mk (by simp) | apply Box.ext | apply Box.drew | apply Box.alloc | (refine Box.other ?_ (by omega) _ _))), (by repeat (first | exact Box.mk rfl | exact Box.mk (by simp) | apply Box.ext | apply Box.drew | apply Box.alloc | (refine Box.other ?_ (by omega) _ _)))⟩⟩)
  case rest =>
    obtain ⟨g, h, rfl, rfl, hcut⟩ := hcut
    obtain ⟨hgA, hhA, hgh, hu2, xg, xh⟩ := hcut.out
    have hhg := hgh.symm
    have xa := XA.out.up hu2
    have xb := XB.out.up hu2
    obtain ⟨ca0, ca1⟩ := xa.two
    obtain ⟨cb0, cb1⟩ := xb.two
    obtain ⟨cg0, cg1⟩ := xg.two
    obtain ⟨ch0, ch1⟩ := xh.two
    have sa' := xa.lt
    have sb' := xb.lt
    have sg' := xg.lt
    have sh' := xh.lt
    have HU2 := hide (HU.out.trans hu2)
    have hwg := Nat.le_trans HU.out.below.size hgA
    have hwh := Nat.le_trans HU.out.below.size hhA
    clear hcut hu2 xa xb xg xh hgA hhA hwg hwh
    go_wp2_with (first | (go_at_call 52; (with_reducible refine (S1.out _).mono ?_); intro _) | (go_at_call 52; (with_reducible refine (S2.out _).mono ?_); intro _) | (go_at_call 43; (with_reducible refine (S3.out _).mono ?_); intro _) | (go_at_call 54; (with_reducible refine (S4.out _).mono ?_); intro _) | (go_at_call 54; (with_reducible refine (S5.out _).mono ?_); intro _) | (go_at_call 43; (with_reducible refine (S6.out _).mono ?_); intro _) | (go_at_call 56; (with_reducible refine (S7.out _).mono ?_); intro _) | (go_at_call 56; (with_reducible refine (S8.out _).mono ?_); intro _) | (go_at_call 43; (with_reducible refine (S9.out _).mono ?_); intro _) | (go_at_call 58; (with_reducible refine (S10.out _).mono ?_); intro _) | (go_at_call 58; (with_reducible refine (S11.out _).mono ?_); intro _) | (go_at_call 43; (with_reducible refine (S12.out _).mono ?_); intro _))
    rcases HQ.out with ⟨p1, p2, p3, hq1, hq2⟩ | ⟨p1, p2, P1, P2, hq1, hq2, hq3⟩
    · have Q1 := fun W => quot_any A B C D W
      rw [hq1] at Q1
      simp only at Q1
      have Q1 := hide Q1
      have Q2 := fun W => quot_any a b c d W
      rw [hq2] at Q2
      simp only at Q2
      have Q2 := hide Q2
      clear hq1 hq2
      go_wp2_with (first | (go_at_call 30; (with_reducible refine (Q1.out _).mono ?_); intro _) | (go_at_call 30; (with_reducible refine (Q2.out _).mono ?_); intro _))
      rcases HR.out with ⟨r1, r2, r3, hr1, hr2⟩ | ⟨r1, r2, R1, R2, hr1, hr2, hr3⟩
      · have V1 := fun W => roots_any A B W
        rw [hr1] at V1
        simp only at V1
        have V1 := hide V1
        have V2 := fun W => roots_any a b W
        rw [hr2] at V2
        simp only at V2
        have V2 := hide V2
        clear hr1 hr2
        go_wp2_with (first | (go_at_call 60; (with_reducible refine (V1.out _).mono ?_); intro _) | (go_at_call 60; (with_reducible refine (V2.out _).mono ?_); intro _) | (go_at_call 23; (with_reducible refine (awake_any _).mono ?_); intro _))
        go_ret
        exact ⟨rfl, HU2.out.trans (by repeat (first | with_reducible exact Up.refl _ | apply Up.ext | apply Up.alloc | apply Up.drew | (refine Up.setCell ?_ (by simp; try omega) _)))⟩
      · have V1 := fun W => roots_any a b W
        rw [hr1] at V1
        simp only at V1
        have V1 := hide V1
        have V2 := fun W => roots_any A B W
        rw [hr2] at V2
        simp only at V2
        have V2 := hide V2
        have V3 := fun W => inside_any r1 r2 R1 R2 W
        rw [hr3] at V3
        have V3 := hide V3
        clear hr1 hr2 hr3
        go_wp2_with (first | (go_at_call 60; (with_reducible refine (V1.out _).mono ?_); intro _) | (go_at_call 60; (with_reducible refine (V2.out _).mono ?_); intro _) | (go_at_call 43; (with_reducible refine (V3.out _).mono ?_); intro _) | (go_at_call 23; (with_reducible refine (awake_any _).mono ?_); intro _))
        go_ret
        exact ⟨rfl, HU2.out.trans (by repeat (first | with_reducible exact Up.refl _ | apply Up.ext | apply Up.alloc | apply Up.drew | (refine Up.setCell ?_ (by simp; try omega) _)))⟩
    · have Q1 := fun W => quot_any a b c d W
      rw [hq1] at Q1
      simp only at Q1
      have Q1 := hide Q1
      have Q2 := fun W => quot_any A B C D W
      rw [hq2] at Q2
      simp only at Q2
      have Q2 := hide Q2
      have Q3 := fun W => inside_any p1 p2 P1 P2 W
      rw [hq3] at Q3
      have Q3 := hide Q3
      clear hq1 hq2 hq3
      go_wp2_with (first | (go_at_call 30; (with_reducible refine (Q1.out _).mono ?_); intro _) | (go_at_call 30; (with_reducible refine (Q2.out _).mono ?_); intro _) | (go_at_call 43; (with_reducible refine (Q3.out _).mono ?_); intro _))
      rcases HR.out with ⟨r1, r2, r3, hr1, hr2⟩ | ⟨r1, r2, R1, R2, hr1, hr2, hr3⟩
      · have V1 := fun W => roots_any A B W
        rw [hr1] at V1
        simp only at V1
        have V1 := hide V1
        have V2 := fun W => roots_any a b W
        rw [hr2] at V2
        simp only at V2
        have V2 := hide V2
        clear hr1 hr2
        go_wp2_with (first | (go_at_call 60; (with_reducible refine (V1.out _).mono ?_); intro _) | (go_at_call 60; (with_reducible refine (V2.out _).mono ?_); intro _) | (go_at_call 23; (with_reducible refine (awake_any _).mono ?_); intro _))
        go_ret
        exact ⟨rfl, HU2.out.trans (by repeat (first | with_reducible exact Up.refl _ | apply Up.ext | apply Up.alloc | apply Up.drew | (refine Up.setCell ?_ (by simp; try omega) _)))⟩
      · have V1 := fun W => roots_any a b W
        rw [hr1] at V1
        simp only at V1
        have V1 := hide V1
        have V2 := fun W => roots_any A B W
        rw [hr2] at V2
        simp only at V2
        have V2 := hide V2
        have V3 := fun W => inside_any r1 r2 R1 R2 W
        rw [hr3] at V3
        have V3 := hide V3
        clear hr1 hr2 hr3
        go_wp2_with (first | (go_at_call 60; (with_reducible refine (V1.out _).mono ?_); intro _) | (go_at_call 60; (with_reducible refine (V2.out _).mono ?_); intro _) | (go_at_call 43; (with_reducible refine (V3.out _).mono ?_); intro _) | (go_at_call 23; (with_reducible refine (awake_any _).mono ?_); intro _))
        go_ret
        exact ⟨rfl, HU2.out.trans (by repeat (first | with_reducible exact Up.refl _ | apply Up.ext | apply Up.alloc | apply Up.drew | (refine Up.setCell ?_ (by simp; try omega) _)))⟩

set_option maxRecDepth 100000 in
theorem grow_lifted (os : Os) (started : os.Started) (H : Type) (enc : TypeId × Value → H) :
    ReturnsInHanded {} Try.checked os 16 .any (Rows.spanGrowsSpec.pre6 enc Try.prog Try.f16 Rows.spanGrowsRow.domain false) (Rows.spanGrowsSpec.post enc Try.prog Try.f16 false true false false) := by
  refine returnsInHanded_of_change (C := Try.checked) knob_own started (by kernel_rfl) Try.func16
    (ChangeSpec.witness6 (enc := enc) (C := Try.checked) false ⟨#[], #[.slice none 0 0, .int .i64 0, .int .i64 0], []⟩ 8 (by kernel_rfl) (by kernel_rfl) (by kernel_rfl) (by kernel_rfl)) ?_
  intro W base args ds gs before hval0 hW _ _
  have hval : ∀ (j : Nat) t v, Try.f16.params[j]? = some t → args[j]? = some v → Value.okWide Try.prog W .any base t v := hval0
  have hW' := hW
  obtain ⟨p, q, hA0, hV, rfl, _, _⟩ := hW
  have hA : DataW.TrodAll enc Try.prog W 0 (fun _ => true) true Try.f16.params.toList args.toList ds p := hA0
  rw [Try.params16] at hA hval
  obtain ⟨v0, vs0, d0, ds0, p0, q0, hargs, rfl, rfl, h0, r0⟩ := trodAll_cons hA
  obtain ⟨v1, vs1, d1, ds1, p1, q1, rfl, rfl, rfl, h1, r1⟩ := trodAll_cons r0
  obtain ⟨v2, vs2, d2, ds2, p2, q2, rfl, rfl, rfl, h2, r2⟩ := trodAll_cons r1
  obtain ⟨rfl, rfl, rfl⟩ := trodAll_nil r2
  obtain rfl : args = #[v0, v1, v2] := by cases args; simp_all
  obtain ⟨rfl, rfl⟩ := trodVars_none hV
  have hlt0 : ∀ x ∈ p0, x.block < W.heap.size := fun x hx => hW'.lt x (by simp [hx])
  obtain ⟨hn0, shut0⟩ := open_nums (hval 0 55 v0 rfl rfl) h0 hlt0
  obtain ⟨a1, rfl, rfl, rfl, w1⟩ := open_int Try.underlying2 (hval 1 2 v1 rfl rfl) h1
  obtain ⟨a2, rfl, rfl, rfl, w2⟩ := open_int Try.underlying2 (hval 2 2 v2 rfl rfl) h2
  clear hA0 hval0
  simp only [List.append_nil] at hW'
  refine (grow_law v0 hn0 a1 a2 (i64_bds w1) (i64_bds w2) ).mono fun px => ?_
  exact ⟨_, rfl, post_of_below (pa := (p0 ++ (([] : List MemPlace) ++ (([] : List MemPlace) ++ [])))) (pv := []) hW' (fun _ _ _ => (trodAll_cons_mk (shut_bool Try.underlying4 _) trodAll_mk0)) (fun sp hsp => (trodAll_cons_mk (shut0 _ sp (Up.below ⟨px, rfl⟩) (fun x hx => hsp x (by simp [hx]))) (trodAll_cons_mk (shut_int Try.underlying2 w1) (trodAll_cons_mk (shut_int Try.underlying2 w2) trodAll_mk0)))) (fun _ _ => rfl) (by simp)
    (Up.below ⟨px, rfl⟩) (ok_one (by kernel_rfl) rfl (okWide_bool_mk Try.underlying4 _))⟩

theorem grow_holds : Rows.SpanGrowsSaid :=
  OpenClaim.holds_of_wide 16 Try.f16 rfl rfl rfl rfl rfl rfl rfl ⟨rfl, rfl, rfl, rfl, rfl⟩ rfl rfl rfl rfl rfl (by kernel_rfl) Try.func16 (by kernel_rfl)
    (of_decide_eq_true (by kernel_rfl)) (by unfold Func.isWrapper; rw [if_neg (by decide +kernel)]; exact ⟨rfl, rfl⟩)
    (fun os started H enc _ => grow_lifted os started H enc)
#print axioms grow_holds
end Go.Proofs.Ytfpdnmfklmgmfaa
