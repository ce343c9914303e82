/- The document's own Hits. -/
import Derived.Test.YtfpdnmfklmgmfaaRefH
import Derived.Deep.RegionWith
namespace Go.Proofs.Ytfpdnmfklmgmfaa
open Go.RowKit

set_option maxHeartbeats 4000000 in
theorem rhits_any (a b : Ar) (r : Int) (w : World) : Gives Try.prog 64 #[.agg #[.int .i64 a.1, .int .i64 a.2.1, .int .i64 a.2.2.1, .int .i64 a.2.2.2], .agg #[.int .i64 b.1, .int .i64 b.2.1, .int .i64 b.2.2.1, .int .i64 b.2.2.2], .int .i64 r] w (.bool (hitsB a b r)) := by
  by_cases hr : rightB a b r = true
  · obtain ⟨ha, hb, r0, r1⟩ := right_ok hr
    have ha' := okA_iff ha
    have hb' := okA_iff hb
    have HA := hide (And.intro ha hb)
    have HB := hide (And.intro ha' hb')
    clear ha hb ha' hb'
    (unfold Gives; go_enter Try.func64, Try.ntmps64)
    go_wp2_with (go_at_call 107; (with_reducible refine (rsure_any _ _ _ _).mono ?_); intro _)
    go_loopw [7] (fun s7 wr => ∃ k : Nat, k ≤ 9 ∧ s7 = .int .i64 k ∧ Hid ((∀ i : Nat, i < k → allB (blendA a b (i : Int)) r = false) ∧ Up w wr ∧ Box wr w.heap.size #[.int .i64 a.1, .int .i64 a.2.1, .int .i64 a.2.2.1, .int .i64 a.2.2.2] 44 ∧ Box wr (w.heap.size + 1) #[.int .i64 b.1, .int .i64 b.2.1, .int .i64 b.2.2.1, .int .i64 b.2.2.2] 44)) (fun s7 _ => 9 - (intOf s7).toNat)
    case atStart => exact ⟨0, by omega, rfl, hide ⟨by omega, (by repeat (first | with_reducible exact Up.refl _ | apply Up.ext | apply Up.alloc | apply Up.drew | (refine Up.setCell ?_ (by simp; try omega) _))), (((Box.mk rfl).alloc _).ext _), ((Box.mk (by simp)).ext _)⟩⟩
    case round =>
      obtain ⟨k, hk, rfl, hR⟩ := hrel
      have c0 := hR.out.2.2.1.cell 0 rfl
      have c1 := hR.out.2.2.1.cell 1 rfl
      have c2 := hR.out.2.2.1.cell 2 rfl
      have c3 := hR.out.2.2.1.cell 3 rfl
      have d0 := hR.out.2.2.2.cell 0 rfl
      have d1 := hR.out.2.2.2.cell 1 rfl
      have d2 := hR.out.2.2.2.cell 2 rfl
      have d3 := hR.out.2.2.2.cell 3 rfl
      have l1 := hR.out.2.2.2.lt
      by_cases hlt : k < 9
      · have hkb : decide ((k : Int) ≤ 8) = true := by simp; omega
        have k0 : (0 : Int) ≤ k := by omega
        have k1 : (k : Int) ≤ 8 := by omega
        have K1 := hide (fun W => rblend_any a.1 a.2.1 b.1 b.2.1 k HB.out.1.1 HB.out.1.2.1 HB.out.2.1 HB.out.2.2.1 k0 k1 W)
        have K2 := hide (fun W => rblend_any a.2.2.1 a.2.2.2 b.2.2.1 b.2.2.2 k HB.out.1.2.2.1 HB.out.1.2.2.2 HB.out.2.2.2.1 HB.out.2.2.2.2 k0 k1 W)
        have K3 := hide (fun W => rall_any (blendA a b k) r (blend_ok HA.out.1 HA.out.2 k0 k1) r0 r1 W)
        unfold blendA at K3
        obtain ⟨e0, h0⟩ : ∃ e, (8 - (k : Int)) * a.1 + k * b.1 = e := ⟨_, rfl⟩
        obtain ⟨e1, h1⟩ : ∃ e, (8 - (k : Int)) * a.2.1 + k * b.2.1 = e := ⟨_, rfl⟩
        obtain ⟨e2, h2⟩ : ∃ e, (8 - (k : Int)) * a.2.2.1 + k * b.2.2.1 = e := ⟨_, rfl⟩
        obtain ⟨e3, h3⟩ : ∃ e, (8 - (k : Int)) * a.2.2.2 + k * b.2.2.2 = e := ⟨_, rfl⟩
        rw [h0, h1] at K1
        rw [h2, h3] at K2
        rw [h0, h1, h2, h3] at K3
        obtain ⟨t, ht⟩ : ∃ t, allB (e0, e1, e2, e3) r = t := ⟨_, rfl⟩
        rw [ht] at K3
        have HT := hide (show allB (blendA a b (k : Int)) r = t by unfold blendA; rw [h0, h1, h2, h3, ht])
        clear h0 h1 h2 h3 ht
        cases t
        · go_wp2
          ((first | with_reducible refine wp_region_ext2 (by kernel_rfl) (by kernel_rfl) ?_ | refine wp_region_ext (by kernel_rfl) (by kernel_rfl) ?_); (repeat (go_big_quiet_step ((first | (go_at_call 109; with_reducible exact Gives.inRegion (K1.out _)) | (go_at_call 109; with_reducible exact Gives.inRegion (K2.out _)) | (go_at_call 108; exact Gives.inRegion (K3.out _)))))); refine wpQuiet_nil ?_; intro _ hw'; obtain ⟨_, hw''⟩ := hw'; subst hw'')
          go_wp2
          refine ⟨⟨k + 1, by omega, by go_num, hide ⟨fun i hi => ?_, ?_, ?_, ?_⟩⟩, by simp [intOf]; omega⟩
          · rcases Nat.lt_or_ge i k with h | h
            · exact hR.out.1 i h
            · obtain rfl : i = k := by omega
              exact HT.out
          · exact hR.out.2.1.ext _
          · exact hR.out.2.2.1.ext _
          · exact hR.out.2.2.2.ext _
        · go_wp2
          ((first | with_reducible refine wp_region_ext2 (by kernel_rfl) (by kernel_rfl) ?_ | refine wp_region_ext (by kernel_rfl) (by kernel_rfl) ?_); (repeat (go_big_quiet_step ((first | (go_at_call 109; with_reducible exact Gives.inRegion (K1.out _)) | (go_at_call 109; with_reducible exact Gives.inRegion (K2.out _)) | (go_at_call 108; exact Gives.inRegion (K3.out _)))))); refine wpQuiet_nil ?_; intro _ hw'; obtain ⟨_, hw''⟩ := hw'; subst hw'')
          go_wp2
          go_ret
          refine ⟨ret_bool ?_, hR.out.2.1.ext _⟩
          have hp : partB a b r = true := List.any_eq_true.2 ⟨k, by simp; omega, HT.out⟩
          unfold hitsB
          rw [hr, hp]; rfl
      · have hkb : decide ((k : Int) ≤ 8) = false := by simp; omega
        obtain rfl : k = 9 := by omega
        have hp : partB a b r = false := by
          unfold partB
          rw [List.any_eq_false]
          intro i hi
          rw [hR.out.1 i (by simpa using hi)]; simp
        have HP := hide (show hitsB a b r = ((aloneB a && aloneB b) && comesB a.1 a.2.2.1 b.1 b.2.2.1 r) by unfold hitsB; rw [hr, hp]; rfl)
        obtain ⟨x0, x1, y0, y1⟩ := a
        obtain ⟨u0, u1, v0, v1⟩ := b
        have K1 := hide (fun W => rwithin_any x0 y0 u0 v0 r HB.out.1.1.1 HB.out.1.1.2 HB.out.1.2.2.1.1 HB.out.1.2.2.1.2 HB.out.2.1.1 HB.out.2.1.2 HB.out.2.2.2.1.1 HB.out.2.2.2.1.2 r0 (by omega) W)
        simp only at c0 c1 c2 c3 d0 d1 d2 d3
        clear hp
        have hup := hide hR.out.2.1
        have g0 : ∀ o1 o2, ((wr.alloc o1).alloc o2).cell? ⟨w.heap.size + 1, 0, none⟩ = some (.int .i64 u0) := fun o1 o2 => ((hR.out.2.2.2.alloc o1).alloc o2).cell 0 rfl
        have g1 : ∀ o1 o2, ((wr.alloc o1).alloc o2).cell? ⟨w.heap.size + 1, 1, none⟩ = some (.int .i64 u1) := fun o1 o2 => ((hR.out.2.2.2.alloc o1).alloc o2).cell 1 rfl
        have g2 : ∀ o1 o2, ((wr.alloc o1).alloc o2).cell? ⟨w.heap.size + 1, 2, none⟩ = some (.int .i64 v0) := fun o1 o2 => ((hR.out.2.2.2.alloc o1).alloc o2).cell 2 rfl
        have g3 : ∀ o1 o2, ((wr.alloc o1).alloc o2).cell? ⟨w.heap.size + 1, 3, none⟩ = some (.int .i64 v1) := fun o1 o2 => ((hR.out.2.2.2.alloc o1).alloc o2).cell 3 rfl
        clear hR
        by_cases hx : x0 = x1
        · subst hx
          by_cases hy : y0 = y1
          · subst hy
            by_cases hu : u0 = u1
            · subst hu
              by_cases hv : v0 = v1
              · subst hv
                have HF := hide (HP.out.trans (show _ = comesB x0 y0 u0 v0 r by simp [aloneB]))
                clear HP
                go_wp2_with fail
                go_region_with (go_at_call 110; refine (points_lit _ _ _ _ _).mono ?_; rintro _ _ ⟨rfl, rfl⟩)
                all_goals (unfold Exit.then; go_simp)
                all_goals go_wp2
                all_goals ((first | with_reducible refine wp_region_ext2 (by kernel_rfl) (by kernel_rfl) ?_ | refine wp_region_ext (by kernel_rfl) (by kernel_rfl) ?_); (repeat (go_big_quiet_step ((go_at_call 78; exact Gives.inRegion (K1.out _))))); refine wpQuiet_nil ?_; intro _ hw'; obtain ⟨_, hw''⟩ := hw'; subst hw'')
                all_goals go_wp2_with (go_at_call 78; (with_reducible refine (K1.out _).mono ?_); intro _)
                all_goals go_ret
                all_goals exact ⟨by rw [HF.out]; rfl, by repeat (first | exact hup.out | apply Up.ext | apply Up.alloc | apply Up.drew)⟩
              · have hvb : (v0 == v1) = false := by simp [hv]
                have HF := hide (HP.out.trans (show _ = false by simp [aloneB, hv]))
                clear HP
                go_wp2_with fail
                go_region_with (go_at_call 110; refine (points_lit _ _ _ _ _).mono ?_; rintro _ _ ⟨rfl, rfl⟩)
                all_goals (unfold Exit.then; go_simp)
                all_goals go_wp2
                all_goals ((first | with_reducible refine wp_region_ext2 (by kernel_rfl) (by kernel_rfl) ?_ | refine wp_region_ext (by kernel_rfl) (by kernel_rfl) ?_); (repeat (go_big_quiet_step ((go_at_call 78; exact Gives.inRegion (K1.out _))))); refine wpQuiet_nil ?_; intro _ hw'; obtain ⟨_, hw''⟩ := hw'; subst hw'')
                all_goals go_wp2_with (go_at_call 78; (with_reducible refine (K1.out _).mono ?_); intro _)
                all_goals go_ret
                all_goals exact ⟨by rw [HF.out]; rfl, by repeat (first | exact hup.out | apply Up.ext | apply Up.alloc | apply Up.drew)⟩
            · have hub : (u0 == u1) = false := by simp [hu]
              have HF := hide (HP.out.trans (show _ = false by simp [aloneB, hu]))
              clear HP
              go_wp2_with fail
              go_region_with (go_at_call 110; refine (points_lit _ _ _ _ _).mono ?_; rintro _ _ ⟨rfl, rfl⟩)
              all_goals (unfold Exit.then; go_simp)
              all_goals go_wp2
              all_goals ((first | with_reducible refine wp_region_ext2 (by kernel_rfl) (by kernel_rfl) ?_ | refine wp_region_ext (by kernel_rfl) (by kernel_rfl) ?_); (repeat (go_big_quiet_step ((go_at_call 78; exact Gives.inRegion (K1.out _))))); refine wpQuiet_nil ?_; intro _ hw'; obtain ⟨_, hw''⟩ := hw'; subst hw'')
              all_goals go_wp2_with (go_at_call 78; (with_reducible refine (K1.out _).mono ?_); intro _)
              all_goals go_ret
              all_goals exact ⟨by rw [HF.out]; rfl, by repeat (first | exact hup.out | apply Up.ext | apply Up.alloc | apply Up.drew)⟩
          · have hyb : (y0 == y1) = false := by simp [hy]
            have HF := hide (HP.out.trans (show _ = false by simp [aloneB, hy]))
            clear HP
            go_wp2_with fail
            go_region_with (go_at_call 110; refine (points_lit _ _ _ _ _).mono ?_; rintro _ _ ⟨rfl, rfl⟩)
            all_goals (unfold Exit.then; go_simp)
            all_goals go_wp2
            all_goals ((first | with_reducible refine wp_region_ext2 (by kernel_rfl) (by kernel_rfl) ?_ | refine wp_region_ext (by kernel_rfl) (by kernel_rfl) ?_); (repeat (go_big_quiet_step ((go_at_call 78; exact Gives.inRegion (K1.out _))))); refine wpQuiet_nil ?_; intro _ hw'; obtain ⟨_, hw''⟩ := hw'; subst hw'')
            all_goals go_wp2_with (go_at_call 78; (with_reducible refine (K1.out _).mono ?_); intro _)
            all_goals go_ret
            all_goals exact ⟨by rw [HF.out]; rfl, by repeat (first | exact hup.out | apply Up.ext | apply Up.alloc | apply Up.drew)⟩
        · have hxb : (x0 == x1) = false := by simp [hx]
          have HF := hide (HP.out.trans (show _ = false by simp [aloneB, hx]))
          clear HP
          go_wp2_with fail
          go_region_with (go_at_call 110; refine (points_lit _ _ _ _ _).mono ?_; rintro _ _ ⟨rfl, rfl⟩)
          all_goals (unfold Exit.then; go_simp)
          all_goals go_wp2
          all_goals ((first | with_reducible refine wp_region_ext2 (by kernel_rfl) (by kernel_rfl) ?_ | refine wp_region_ext (by kernel_rfl) (by kernel_rfl) ?_); (repeat (go_big_quiet_step ((go_at_call 78; exact Gives.inRegion (K1.out _))))); refine wpQuiet_nil ?_; intro _ hw'; obtain ⟨_, hw''⟩ := hw'; subst hw'')
          all_goals go_wp2_with (go_at_call 78; (with_reducible refine (K1.out _).mono ?_); intro _)
          all_goals go_ret
          all_goals exact ⟨by rw [HF.out]; rfl, by repeat (first | exact hup.out | apply Up.ext | apply Up.alloc | apply Up.drew)⟩
  · have hr' : rightB a b r = false := Bool.eq_false_iff.2 hr
    rw [show hitsB a b r = false by unfold hitsB; rw [hr']; rfl]
    clear hr
    (unfold Gives; go_enter Try.func64, Try.ntmps64)
    go_wp2_with (go_at_call 107; (with_reducible refine (rsure_any _ _ _ _).mono ?_); intro _)
    go_ret
    exact ⟨rfl, (by repeat (first | with_reducible exact Up.refl _ | apply Up.ext | apply Up.alloc | apply Up.drew | (refine Up.setCell ?_ (by simp; try omega) _)))⟩
end Go.Proofs.Ytfpdnmfklmgmfaa
