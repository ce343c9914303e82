/- Two worlds with the same bodies and home are the same. Conditions: what lies in memory. -/
import Derived.Test.YtbcgdhldkanecaaGreatSkyQ
import Derived.Test.YtbcgdhldkanecaaGreatFloat
import Derived.Test.YtbcgdhldkanecaaGreatTree
namespace Go.Proofs.YtbcgdhldkanecaaGreat
set_option linter.unusedVariables false
set_option linter.unusedSimpArgs false
open Go.RowKit Go.Shelf

set_option maxRecDepth 100000 in
set_option maxHeartbeats 8000000 in
theorem sameworld_any {K K2 : Nat → Prop} {w : World} {a a2 : Option Addr} {n c c2 : Nat} {bs : List Bod} {home : Int} (h1 : Bods K w (.slice a n c) bs) (h2 : Bods K2 w (.slice a2 n c2) bs) :
    Gives Tryz.prog 17 #[.agg #[.slice a n c, .int .i64 home], .agg #[.slice a2 n c2, .int .i64 home]] w (.bool true) := by
  have hm := (Bods.at h1).2.1
  have HL := hide (And.intro h1 h2)
  clear h1 h2
  (unfold Gives; go_enter Tryz.func17, Tryz.ntmps17)
  go_wp2_with fail
  refine forgetW (fun V => Up w V ∧ Box V w.heap.size #[.slice a n c, .int .i64 home] 24 ∧ Box V (w.heap.size + 1) #[.slice a2 n c2, .int .i64 home] 24) ⟨(by repeat (first | with_reducible exact Up.refl _ | with_reducible apply Up.plus | apply Up.ext | apply Up.alloc | apply Up.drew | (refine Up.setCell ?_ (by simp; try omega) _))), (by repeat (first | exact Box.mk rfl | (refine Box.mk ?_; simp; done) | apply Box.ext | apply Box.drew | apply Box.alloc | apply Box.two1 | (refine Box.other ?_ (by omega) _ _))), (by repeat (first | exact Box.mk rfl | (refine Box.mk ?_; simp; done) | apply Box.ext | apply Box.drew | apply Box.alloc | apply Box.two1 | (refine Box.other ?_ (by omega) _ _)))⟩ ?_
  rintro V0 ⟨hu0, bx, by0⟩
  have HS := hide (And.intro hu0 (And.intro bx by0))
  clear hu0 bx by0
  go_loopw [5] (fun s wr => ∃ i : Nat, s = .int .i64 i ∧ i ≤ n ∧ Hid (Up w wr ∧ Box wr w.heap.size #[.slice a n c, .int .i64 home] 24 ∧ Box wr (w.heap.size + 1) #[.slice a2 n c2, .int .i64 home] 24)) (fun s _ => n - (intOf s).toNat)
  case atStart => exact ⟨0, by go_num, by omega, HS⟩
  case round =>
    obtain ⟨i, rfl, hi, hJ⟩ := hrel
    clear HS
    have cx0 := hJ.out.2.1.cell 0 rfl
    have lcx := hJ.out.2.1.lt
    have cy0 := hJ.out.2.2.cell 0 rfl
    have lcy := hJ.out.2.2.lt
    by_cases hlt : i < n
    · have hib : decide ((i : Int) < n) = true := by simp; omega
      have hin : decide (i < n) = true := by simp; omega
      obtain ⟨b0, o0, b, ta, tn, tc, ea, _, hb0, hbk, _, d0, d1, d2, hT⟩ := (Bods.at (HL.out.1.keeps (hJ.out.1.keeps K))).2.2 i hlt
      obtain ⟨b1, o1, b', ta', tn', tc', ea', _, hb1, hbk', _, e0, e1, e2, hT'⟩ := (Bods.at (HL.out.2.keeps (hJ.out.1.keeps K2))).2.2 i hlt
      rw [hbk] at hbk'
      cases hbk'
      have htn := (Vecs.at hT).1
      have htn' := (Vecs.at hT').1
      obtain rfl : tn = tn' := by omega
      have htm := (Vecs.at hT).2.1
      subst ea ea'
      have HT := hide (And.intro hT (And.intro hT' (And.intro hbk htn)))
      clear hT hT' hbk htn htn'
      go_wp2_with fail
      have HC := hide (show ∀ W', Up wr W' → (W'.cell? ⟨w.heap.size, 0, none⟩ = some (.slice (some ⟨b0, o0, none⟩) n c) ∧ W'.cell? ⟨w.heap.size + 1, 0, none⟩ = some (.slice (some ⟨b1, o1, none⟩) n c2)) ∧
          (W'.cell? ⟨b0, o0 + i * 3, none⟩ = some (.int .i64 b.mu) ∧ W'.cell? ⟨b0, o0 + i * 3 + 1, none⟩ = some (.int .i64 b.radius) ∧ W'.cell? ⟨b0, o0 + i * 3 + 2, none⟩ = some (.slice ta tn tc)) ∧
          W'.cell? ⟨b1, o1 + i * 3, none⟩ = some (.int .i64 b.mu) ∧ W'.cell? ⟨b1, o1 + i * 3 + 1, none⟩ = some (.int .i64 b.radius) ∧ W'.cell? ⟨b1, o1 + i * 3 + 2, none⟩ = some (.slice ta' tn tc') from fun W' hu =>
        have c : ∀ (q j : Nat) (v : Value), q < wr.heap.size → wr.cell? ⟨q, j, none⟩ = some v → W'.cell? ⟨q, j, none⟩ = some v := fun q j v hq hv => (World.cell?_of_block (a := ⟨q, j, none⟩) (hu.below.block q hq)).trans hv
        ⟨⟨c _ _ _ lcx cx0, c _ _ _ lcy cy0⟩, ⟨c _ _ _ hb0 d0, c _ _ _ hb0 d1, c _ _ _ hb0 d2⟩, c _ _ _ hb1 e0, c _ _ _ hb1 e1, c _ _ _ hb1 e2⟩)
      have hl1 : w.heap.size < wr.heap.size := lcx
      have hl2 : w.heap.size + 1 < wr.heap.size := lcy
      have US := Up.drew (Up.refl wr)
      clear cx0 lcx cy0 lcy d0 d1 d2 e0 e1 e2 hb0 hb1
      refine wp_region_L (fun W' => Up wr W') 13 (by kernel_rfl) ?_
      refine anyL_take 0 (v := (.pointer (some ⟨w.heap.size, 0, none⟩))) rfl (by kernel_rfl) (fun _ _ _ h => h) (.inl ⟨rfl, fun W' hW' => by have hc := HC.out W' hW'; obtain ⟨⟨x1, x2⟩, ⟨x3, x4, x5⟩, x6, x7, x8⟩ := hc; simp [go_sem, x1]⟩) US ?_
      simp only [Act.put, List.setIfInBounds_toArray, List.set_cons_zero, List.set_cons_succ]
      refine anyL_take 1 (v := (.slice (some ⟨b0, o0, none⟩) n c)) rfl (by kernel_rfl) (fun _ _ _ h => h) (.inl ⟨rfl, fun W' hW' => by have hc := HC.out W' hW'; obtain ⟨⟨x1, x2⟩, ⟨x3, x4, x5⟩, x6, x7, x8⟩ := hc; simp [go_sem, x1]⟩) US ?_
      simp only [Act.put, List.setIfInBounds_toArray, List.set_cons_zero, List.set_cons_succ]
      refine anyL_take 2 (v := (.int .i64 i)) rfl (by kernel_rfl) (fun _ _ _ h => h) (.inl ⟨rfl, fun W' hW' => by have hc := HC.out W' hW'; obtain ⟨⟨x1, x2⟩, ⟨x3, x4, x5⟩, x6, x7, x8⟩ := hc; simp [go_sem, x1]⟩) US ?_
      simp only [Act.put, List.setIfInBounds_toArray, List.set_cons_zero, List.set_cons_succ]
      refine anyL_take 3 (v := (.pointer (some ⟨b0, o0 + i * 3, none⟩))) rfl (by kernel_rfl) (fun _ _ _ h => h) (.inl ⟨rfl, fun W' hW' => by have hc := HC.out W' hW'; obtain ⟨⟨x1, x2⟩, ⟨x3, x4, x5⟩, x6, x7, x8⟩ := hc; simp [go_sem, hin, hib, hlt]⟩) US ?_
      simp only [Act.put, List.setIfInBounds_toArray, List.set_cons_zero, List.set_cons_succ]
      refine anyL_take 4 (v := (.agg #[.int .i64 b.mu, .int .i64 b.radius, .slice ta tn tc])) rfl (by kernel_rfl) (fun _ _ _ h => h) (.inl ⟨rfl, fun W' hW' => by have hc := HC.out W' hW'; obtain ⟨⟨x1, x2⟩, ⟨x3, x4, x5⟩, x6, x7, x8⟩ := hc; simp [go_sem, x3, x4, x5]⟩) US ?_
      simp only [Act.put, List.setIfInBounds_toArray, List.set_cons_zero, List.set_cons_succ]
      refine anyL_take 5 (v := (.pointer (some ⟨w.heap.size + 1, 0, none⟩))) rfl (by kernel_rfl) (fun _ _ _ h => h) (.inl ⟨rfl, fun W' hW' => by have hc := HC.out W' hW'; obtain ⟨⟨x1, x2⟩, ⟨x3, x4, x5⟩, x6, x7, x8⟩ := hc; simp [go_sem, x1]⟩) US ?_
      simp only [Act.put, List.setIfInBounds_toArray, List.set_cons_zero, List.set_cons_succ]
      refine anyL_take 6 (v := (.slice (some ⟨b1, o1, none⟩) n c2)) rfl (by kernel_rfl) (fun _ _ _ h => h) (.inl ⟨rfl, fun W' hW' => by have hc := HC.out W' hW'; obtain ⟨⟨x1, x2⟩, ⟨x3, x4, x5⟩, x6, x7, x8⟩ := hc; simp [go_sem, x2]⟩) US ?_
      simp only [Act.put, List.setIfInBounds_toArray, List.set_cons_zero, List.set_cons_succ]
      refine anyL_take 7 (v := (.int .i64 i)) rfl (by kernel_rfl) (fun _ _ _ h => h) (.inl ⟨rfl, fun W' hW' => by have hc := HC.out W' hW'; obtain ⟨⟨x1, x2⟩, ⟨x3, x4, x5⟩, x6, x7, x8⟩ := hc; simp [go_sem, x1]⟩) US ?_
      simp only [Act.put, List.setIfInBounds_toArray, List.set_cons_zero, List.set_cons_succ]
      refine anyL_take 8 (v := (.pointer (some ⟨b1, o1 + i * 3, none⟩))) rfl (by kernel_rfl) (fun _ _ _ h => h) (.inl ⟨rfl, fun W' hW' => by have hc := HC.out W' hW'; obtain ⟨⟨x1, x2⟩, ⟨x3, x4, x5⟩, x6, x7, x8⟩ := hc; simp [go_sem, hin, hib, hlt]⟩) US ?_
      simp only [Act.put, List.setIfInBounds_toArray, List.set_cons_zero, List.set_cons_succ]
      refine anyL_take 9 (v := (.agg #[.int .i64 b.mu, .int .i64 b.radius, .slice ta' tn tc'])) rfl (by kernel_rfl) (fun _ _ _ h => h) (.inl ⟨rfl, fun W' hW' => by have hc := HC.out W' hW'; obtain ⟨⟨x1, x2⟩, ⟨x3, x4, x5⟩, x6, x7, x8⟩ := hc; simp [go_sem, x6, x7, x8]⟩) US ?_
      simp only [Act.put, List.setIfInBounds_toArray, List.set_cons_zero, List.set_cons_succ]
      clear HC US
      refine anyL_two (i := 10) (j := 11) (by kernel_rfl) rfl rfl (fun KK HK => ?_) (fun KK HK => ?_)
      go_wp2_with fail
      refine HK.out _ _ (fun _ => (by repeat (first | with_reducible exact Up.refl _ | with_reducible apply Up.drew | with_reducible apply Up.alloc | (with_reducible refine Up.setCell ?_ (by simp) _)))) ?_
      clear HK
      refine anyL_one (i := 11) (by kernel_rfl) rfl (fun KK HK => ?_)
      go_wp2_with fail
      refine HK.out _ _ (fun _ => (by repeat (first | with_reducible exact Up.refl _ | with_reducible apply Up.drew | with_reducible apply Up.alloc | (with_reducible refine Up.setCell ?_ (by simp) _)))) ?_
      clear HK
      refine anyL_one (i := 12) (by kernel_rfl) rfl (fun KK HK => ?_)
      go_wp2_with fail
      refine HK.out _ _ (fun _ => (by repeat (first | with_reducible exact Up.refl _ | with_reducible apply Up.drew | with_reducible apply Up.alloc | (with_reducible refine Up.setCell ?_ (by simp) _)))) ?_
      clear HK
      refine anyL_one (i := 13) (by kernel_rfl) rfl (fun KK HK => ?_)
      go_wp2_with fail
      refine HK.out _ _ (fun h => (h rfl).elim) ?_
      clear HK
      refine anyL_done (by kernel_rfl) ?_
      go_wp2_with fail
      refine forgetW (fun V => Up wr V ∧ Box V wr.heap.size #[.int .i64 b.mu, .int .i64 b.radius, .slice ta tn tc] 73 ∧ Box V (wr.heap.size + 1) #[.int .i64 b.mu, .int .i64 b.radius, .slice ta' tn tc'] 73) ⟨?_, ?_, ?_⟩ ?_
      · exact (by repeat (first | with_reducible exact Up.refl _ | with_reducible apply Up.drew | with_reducible apply Up.alloc | (with_reducible refine Up.setCell ?_ (by simp) _)))
      · exact (by repeat (first | exact Box.mk rfl | (refine Box.mk ?_; simp; done) | apply Box.ext | apply Box.drew | apply Box.alloc | apply Box.two1 | (refine Box.other ?_ (by omega) _ _)))
      · exact (by repeat (first | exact Box.mk rfl | (refine Box.mk ?_; simp; done) | apply Box.ext | apply Box.drew | apply Box.alloc | apply Box.two1 | (refine Box.other ?_ (by omega) _ _)))
      obtain ⟨g2, hb⟩ : ∃ g, wr.heap.size + 1 = g := ⟨_, rfl⟩
      obtain ⟨g1, ha⟩ : ∃ g, wr.heap.size = g := ⟨_, rfl⟩
      rw [hb, ha]
      clear ha hb
      rintro V1 ⟨hu1, q1, q2⟩
      rotate_left 1
      refine HK.out _ _ (fun _ => (by repeat (first | with_reducible exact Up.refl _ | with_reducible apply Up.drew | with_reducible apply Up.alloc | (with_reducible refine Up.setCell ?_ (by simp) _)))) ?_
      clear HK
      refine anyL_one (i := 10) (by kernel_rfl) rfl (fun KK HK => ?_)
      go_wp2_with fail
      refine HK.out _ _ (fun _ => (by repeat (first | with_reducible exact Up.refl _ | with_reducible apply Up.drew | with_reducible apply Up.alloc | (with_reducible refine Up.setCell ?_ (by simp) _)))) ?_
      clear HK
      refine anyL_one (i := 12) (by kernel_rfl) rfl (fun KK HK => ?_)
      go_wp2_with fail
      refine HK.out _ _ (fun _ => (by repeat (first | with_reducible exact Up.refl _ | with_reducible apply Up.drew | with_reducible apply Up.alloc | (with_reducible refine Up.setCell ?_ (by simp) _)))) ?_
      clear HK
      refine anyL_one (i := 13) (by kernel_rfl) rfl (fun KK HK => ?_)
      go_wp2_with fail
      refine HK.out _ _ (fun h => (h rfl).elim) ?_
      clear HK
      refine anyL_done (by kernel_rfl) ?_
      go_wp2_with fail
      refine forgetW (fun V => Up wr V ∧ Box V (wr.heap.size + 1) #[.int .i64 b.mu, .int .i64 b.radius, .slice ta tn tc] 73 ∧ Box V wr.heap.size #[.int .i64 b.mu, .int .i64 b.radius, .slice ta' tn tc'] 73) ⟨?_, ?_, ?_⟩ ?_
      · exact (by repeat (first | with_reducible exact Up.refl _ | with_reducible apply Up.drew | with_reducible apply Up.alloc | (with_reducible refine Up.setCell ?_ (by simp) _)))
      · exact (by repeat (first | exact Box.mk rfl | (refine Box.mk ?_; simp; done) | apply Box.ext | apply Box.drew | apply Box.alloc | apply Box.two1 | (refine Box.other ?_ (by omega) _ _)))
      · exact (by repeat (first | exact Box.mk rfl | (refine Box.mk ?_; simp; done) | apply Box.ext | apply Box.drew | apply Box.alloc | apply Box.two1 | (refine Box.other ?_ (by omega) _ _)))
      obtain ⟨g1, hb⟩ : ∃ g, wr.heap.size + 1 = g := ⟨_, rfl⟩
      obtain ⟨g2, ha⟩ : ∃ g, wr.heap.size = g := ⟨_, rfl⟩
      rw [hb, ha]
      clear ha hb
      rintro V1 ⟨hu1, q1, q2⟩
      all_goals
        have HB := hide (And.intro hu1 (And.intro q1 q2))
        clear hu1 q1 q2
        obtain ⟨WA, hWA⟩ : ∃ W, wr = W := ⟨_, rfl⟩
        rw [hWA] at HB HT hJ
        clear hl1 hl2 hWA
        go_loopw [8] (fun s w2 => ∃ q : Nat, s = .int .i64 q ∧ q ≤ tn ∧ Hid (Up WA w2 ∧ Box w2 g1 #[.int .i64 b.mu, .int .i64 b.radius, .slice ta tn tc] 73 ∧ Box w2 g2 #[.int .i64 b.mu, .int .i64 b.radius, .slice ta' tn tc'] 73)) (fun s _ => tn - (intOf s).toNat)
        case atStart => exact ⟨0, by go_num, by omega, HB⟩
        case round =>
          obtain ⟨q, rfl, hq, hr⟩ := hrel
          clear HB
          have p0 := hr.out.2.1.cell 2 rfl
          have p1 := hr.out.2.2.cell 2 rfl
          have lp0 := hr.out.2.1.lt
          have lp1 := hr.out.2.2.lt
          by_cases hlq : q < tn
          · have hqb : decide ((q : Int) < tn) = true := by simp; omega
            have hqn : decide (q < tn) = true := by simp; omega
            obtain ⟨t0, u0, p, et, _, ht0, hpk, _, k0, k1⟩ := (Vecs.at (HT.out.1.keeps (hr.out.1.keeps K))).2.2 q hlq
            obtain ⟨t1, u1, p', et', _, ht1, hpk', _, m0, m1⟩ := (Vecs.at (HT.out.2.1.keeps (hr.out.1.keeps K2))).2.2 q hlq
            rw [hpk] at hpk'
            cases hpk'
            subst et et'
            have HP := hide hpk
            clear hpk
            go_wp2_with fail
            ((first | with_reducible refine wp_region_ext2 (by kernel_rfl) (by kernel_rfl) ?_ | refine wp_region_ext (by kernel_rfl) (by kernel_rfl) ?_); (repeat (go_big_quiet_step (fail))); refine wpQuiet_nil ?_; intro _ hw'; obtain ⟨_, hw''⟩ := hw'; subst hw'')
            go_wp2
            go_roundw
            case rel => exact ⟨q + 1, by go_num, by omega, hide ⟨(by repeat (first | with_reducible exact hr.out.1 | with_reducible exact Up.refl _ | apply Up.ext | apply Up.alloc | apply Up.drew | (refine Up.setCell ?_ (by simp [World.setCell]; try omega) _))), (by repeat (first | with_reducible exact hr.out.2.1 | apply Box.ext | apply Box.drew | apply Box.alloc | (refine Box.other ?_ (by simp; try omega) _ _))), (by repeat (first | with_reducible exact hr.out.2.2 | apply Box.ext | apply Box.drew | apply Box.alloc | (refine Box.other ?_ (by simp; try omega) _ _)))⟩⟩
            case measure => simp [intOf]; omega
          · have hqb : decide ((q : Int) < tn) = false := by simp; omega
            have hqn : decide (q < tn) = false := by simp; omega
            go_wp2
            go_roundw
            case rel => exact ⟨i + 1, by go_num, by omega, hide ⟨hJ.out.1.trans hr.out.1, hJ.out.2.1.up hr.out.1, hJ.out.2.2.up hr.out.1⟩⟩
            case measure => simp [intOf]; omega
    · have hib : decide ((i : Int) < n) = false := by simp; omega
      have hin : decide (i < n) = false := by simp; omega
      go_wp2
      go_ret
      exact ⟨rfl, (by repeat (first | with_reducible exact hJ.out.1 | with_reducible exact Up.refl _ | apply Up.ext | apply Up.alloc | apply Up.drew | (refine Up.setCell ?_ (by simp [World.setCell]; try omega) _)))⟩
end Go.Proofs.YtbcgdhldkanecaaGreat
