/- Reference bolideref06: which offers are dark. Conditions: what lies in memory. -/
import Derived.Test.YtnaiaodnnmhdkaaGreatWplain
namespace Go.Proofs.YtnaiaodnnmhdkaaGreat
set_option linter.unusedVariables false
set_option linter.unusedSimpArgs false
open Go.RowKit Go.Shelf

def moonE (s : SkyD) (m g : Int) : Int := if m < 0 ∨ (s.bodies.length : Int) ≤ m then 7 else if withinB g 0 1000000 = true then 0 else 2
theorem darkV_moon (s : SkyD) (o : OffD) (m g : Int) : darkV s o m g = (decide (offE s o = 0) && (decide (moonE s m g = 0) && darkK s o m g)) := by
  unfold darkV moonE
  by_cases h1 : 0 ≤ m
  · by_cases h2 : m < s.bodies.length
    · rw [if_neg (by omega), decide_eq_true h1, decide_eq_true h2]
      cases withinB g 0 1000000 <;> simp
    · rw [if_pos (.inr (by omega)), decide_eq_false h2]
      simp
  · rw [if_pos (.inl (by omega)), decide_eq_false h1]
    simp
set_option maxRecDepth 100000 in
set_option maxHeartbeats 4000000 in
theorem vmoon_any {K : Nat → Prop} {w : World} {a sa ca : Option Addr} {n c sn sc cn cc : Nat} {s : SkyD} (hL : SkyL K w a n c sa sn sc ca cn cc s) (m g : Int) : Gives Tryz.prog 79 #[.agg #[.slice a n c, .int .i64 s.home, .slice sa sn sc, .slice ca cn cc], .agg #[.int .i64 (m), .int .i64 (g)]] w (.int .i64 (moonE s m g)) := by
  have hn := (Bods.at hL.b).1
  have hm := (Bods.at hL.b).2.1
  have HW := hide (fun W => vbetween_any g 0 1000000 W)
  unfold moonE
  rw [← hn]
  generalize withinB g 0 1000000 = B at *
  generalize s.home = home at *
  clear hL hn
  have hc : m < 0 ∨ (¬ m < 0 ∧ (n : Int) ≤ m) ∨ (¬ m < 0 ∧ ¬ (n : Int) ≤ m) := by omega
  rcases hc with h | ⟨h, h'⟩ | ⟨h, h'⟩
  · rw [if_pos (.inl h)]
    (unfold Gives; go_enter Tryz.func79, Tryz.ntmps79)
    go_wp2
    go_ret
    exact ⟨rfl, (by repeat (first | with_reducible exact Up.refl _ | with_reducible apply Up.plus | apply Up.ext | apply Up.alloc | apply Up.drew | (refine Up.setCell ?_ (by simp; try omega) _)))⟩
  · rw [if_pos (.inr h')]
    have d1 : decide ((n : Int) ≤ m) = true := decide_eq_true h'
    (unfold Gives; go_enter Tryz.func79, Tryz.ntmps79)
    go_wp2
    go_ret
    exact ⟨rfl, (by repeat (first | with_reducible exact Up.refl _ | with_reducible apply Up.plus | apply Up.ext | apply Up.alloc | apply Up.drew | (refine Up.setCell ?_ (by simp; try omega) _)))⟩
  · rw [if_neg (by omega)]
    have d1 : decide ((n : Int) ≤ m) = false := decide_eq_false h'
    cases B
    · (unfold Gives; go_enter Tryz.func79, Tryz.ntmps79)
      go_wp2_with (go_at_call 71; (with_reducible refine (HW.out _).mono ?_); intro _)
      go_ret
      exact ⟨rfl, (by repeat (first | with_reducible exact Up.refl _ | with_reducible apply Up.plus | apply Up.ext | apply Up.alloc | apply Up.drew | (refine Up.setCell ?_ (by simp; try omega) _)))⟩
    · (unfold Gives; go_enter Tryz.func79, Tryz.ntmps79)
      go_wp2_with (go_at_call 71; (with_reducible refine (HW.out _).mono ?_); intro _)
      go_ret
      exact ⟨rfl, (by repeat (first | with_reducible exact Up.refl _ | with_reducible apply Up.plus | apply Up.ext | apply Up.alloc | apply Up.drew | (refine Up.setCell ?_ (by simp; try omega) _)))⟩
set_option maxRecDepth 100000 in
set_option maxHeartbeats 4000000 in
theorem vdark0_any {K : Nat → Prop} {w : World} {a sa ca : Option Addr} {n c sn sc cn cc : Nat} {s : SkyD} (hL : SkyL K w a n c sa sn sc ca cn cc s) (o : OffD) (he : offE s o = 0) {m g : Int} (hg : 0 ≤ g ∧ g ≤ 1000000) : Gives Tryz.prog 80 #[.agg #[.slice a n c, .int .i64 s.home, .slice sa sn sc, .slice ca cn cc], .agg (offA o), .agg #[.int .i64 (m), .int .i64 (g)]] w (.bool (darkK s o m g)) := by
  have hk := kbd_of he
  by_cases h2 : o.kind = 2
  · have hD : darkK s o m g = true := by unfold darkK; rw [knd_ra h2]; rfl
    rw [hD]
    have h2b : (o.kind == 2) = true := by simp [h2]
    generalize s.home = home at *
    clear hD h2 he hk hL
    (unfold Gives; go_enter Tryz.func80, Tryz.ntmps80)
    go_wp2
    go_ret
    exact ⟨rfl, (by repeat (first | with_reducible exact Up.refl _ | with_reducible apply Up.plus | apply Up.ext | apply Up.alloc | apply Up.drew | (refine Up.setCell ?_ (by simp; try omega) _)))⟩
  have h2b : (o.kind == 2) = false := by simp [h2]
  obtain ⟨P1, hP1⟩ : ∃ z, (atW s.bodies s.home m o.tick).1 = z := ⟨_, rfl⟩
  obtain ⟨P2, hP2⟩ : ∃ z, (atW s.bodies s.home m o.tick).2 = z := ⟨_, rfl⟩
  have hP : atW s.bodies s.home m o.tick = (P1, P2) := by rw [← hP1, ← hP2]
  have hbd := atW_bd s.bodies s.home m o.tick
  have HAT := hide (fun W (hu : Up w W) => sAt_any (hL.up hu).b (hL.up hu).h m o.tick)
  rw [hP] at HAT hbd
  dsimp only at HAT hbd
  have HS := hide (fun W (hu : Up w W) => vslope_any (hL.up hu) o he h2 (x := P1) (y := P2) hbd)
  have hcr := (cr_bdK (p := (P1, P2)) hk hbd).2.2
  have hD : darkK s o m g = !(decide (0 < doK (kndOf s o) (P1, P2)) && (decide (-g * doK (kndOf s o) (P1, P2) ≤ 1000000 * crK (kndOf s o) (P1, P2)) && decide (1000000 * crK (kndOf s o) (P1, P2) ≤ g * doK (kndOf s o) (P1, P2)))) := by
    unfold darkK withinK
    rw [hP, (knd_sc (s := s) h2).1]
    rfl
  rw [hD]
  obtain ⟨C, hC⟩ : ∃ C, crK (kndOf s o) (P1, P2) = C := ⟨_, rfl⟩
  obtain ⟨D, hDD⟩ : ∃ D, doK (kndOf s o) (P1, P2) = D := ⟨_, rfl⟩
  rw [hC, hDD] at hcr HS ⊢
  clear hD hP hP1 hP2 hbd he hk hL hC hDD h2
  generalize s.home = home at *
  have hm := mul_abs (x := g) (y := D) (B := 1000000) (C := 558345748480) (by omega) (by omega) (by omega) (by omega)
  have hmn : -g * D = -(g * D) := Int.neg_mul _ _
  rw [hmn]
  obtain ⟨c1, c2⟩ : -1000000000000000000 ≤ 1000000 * C ∧ 1000000 * C ≤ 1000000000000000000 := by omega
  have hcase : (¬ 0 < D) ∨ (0 < D ∧ ¬ -(g * D) ≤ 1000000 * C) ∨ (0 < D ∧ -(g * D) ≤ 1000000 * C ∧ ¬ 1000000 * C ≤ g * D) ∨ (0 < D ∧ -(g * D) ≤ 1000000 * C ∧ 1000000 * C ≤ g * D) := by omega
  have e6 : (1000000 : Int) * 558345748480 = 558345748480000000 := by decide
  rw [e6] at hm
  rcases hcase with h | ⟨h, h'⟩ | ⟨h, h', h''⟩ | ⟨h, h', h''⟩
  · rw [decide_eq_false h, Bool.false_and]
    (unfold Gives; go_enter Tryz.func80, Tryz.ntmps80)
    go_wp2_with fail
    refine forgetW (fun V => Up w V ∧ Box V w.heap.size #[.slice a n c, .int .i64 home, .slice sa sn sc, .slice ca cn cc] 28 ∧ Box V (w.heap.size + 1) (offA o) 32 ∧ Box V (w.heap.size + 1 + 1) #[.int .i64 (m), .int .i64 (g)] 48) ⟨(by repeat (first | with_reducible exact Up.refl _ | with_reducible apply Up.plus | apply Up.ext | apply Up.alloc | apply Up.drew | (refine Up.setCell ?_ (by simp; try omega) _))), (by repeat (first | exact Box.mk rfl | (refine Box.mk ?_; simp; done) | apply Box.ext | apply Box.drew | apply Box.alloc | apply Box.two1 | (refine Box.other ?_ (by omega) _ _))), (by repeat (first | exact Box.mk rfl | (refine Box.mk ?_; simp; done) | apply Box.ext | apply Box.drew | apply Box.alloc | apply Box.two1 | (refine Box.other ?_ (by omega) _ _))), (by repeat (first | exact Box.mk rfl | (refine Box.mk ?_; simp; done) | apply Box.ext | apply Box.drew | apply Box.alloc | apply Box.two1 | (refine Box.other ?_ (by omega) _ _)))⟩ ?_
    rintro V ⟨hu, b0, b1, b2⟩
    have s0 := b0.cell 0 rfl
    have s1 := b0.cell 1 rfl
    have s2 := b0.cell 2 rfl
    have s3 := b0.cell 3 rfl
    have ls := b0.lt
    have f0 := b1.cell 0 rfl
    have f1 := b1.cell 1 rfl
    have f2 := b1.cell 2 rfl
    have f3 := b1.cell 3 rfl
    have f4 := b1.cell 4 rfl
    have f5 := b1.cell 5 rfl
    have f6 := b1.cell 6 rfl
    have f7 := b1.cell 7 rfl
    have f8 := b1.cell 8 rfl
    have f9 := b1.cell 9 rfl
    have f10 := b1.cell 10 rfl
    have lf := b1.lt
    have g0 := b2.cell 0 rfl
    have g1 := b2.cell 1 rfl
    have lg := b2.lt
    have HB := hide (hu)
    clear hu b0 b1 b2
    ((first | with_reducible refine wp_region_ext2 (by kernel_rfl) (by kernel_rfl) ?_ | refine wp_region_ext (by kernel_rfl) (by kernel_rfl) ?_); (repeat (go_big_quiet_step ((first | (go_at_call 136; with_reducible exact Gives.inRegion (HAT.out _ (by repeat (first | with_reducible exact HB.out | with_reducible apply Up.ext | with_reducible apply Up.alloc | with_reducible apply Up.drew)))) | (go_at_call 120; with_reducible exact Gives.inRegion (HS.out _ (by repeat (first | with_reducible exact HB.out | with_reducible apply Up.ext | with_reducible apply Up.alloc | with_reducible apply Up.drew)))))))); refine wpQuiet_nil ?_; intro _ hw'; obtain ⟨_, hw''⟩ := hw'; subst hw'')
    go_wp2
    go_ret
    exact ⟨ret_bool (by simp_all), (by repeat (first | with_reducible exact HB.out | with_reducible exact Up.refl _ | apply Up.ext | apply Up.alloc | apply Up.drew | (refine Up.setCell ?_ (by simp [World.setCell]; try omega) _)))⟩
  · rw [decide_eq_true h, decide_eq_false h', Bool.true_and, Bool.false_and]
    (unfold Gives; go_enter Tryz.func80, Tryz.ntmps80)
    go_wp2_with fail
    refine forgetW (fun V => Up w V ∧ Box V w.heap.size #[.slice a n c, .int .i64 home, .slice sa sn sc, .slice ca cn cc] 28 ∧ Box V (w.heap.size + 1) (offA o) 32 ∧ Box V (w.heap.size + 1 + 1) #[.int .i64 (m), .int .i64 (g)] 48) ⟨(by repeat (first | with_reducible exact Up.refl _ | with_reducible apply Up.plus | apply Up.ext | apply Up.alloc | apply Up.drew | (refine Up.setCell ?_ (by simp; try omega) _))), (by repeat (first | exact Box.mk rfl | (refine Box.mk ?_; simp; done) | apply Box.ext | apply Box.drew | apply Box.alloc | apply Box.two1 | (refine Box.other ?_ (by omega) _ _))), (by repeat (first | exact Box.mk rfl | (refine Box.mk ?_; simp; done) | apply Box.ext | apply Box.drew | apply Box.alloc | apply Box.two1 | (refine Box.other ?_ (by omega) _ _))), (by repeat (first | exact Box.mk rfl | (refine Box.mk ?_; simp; done) | apply Box.ext | apply Box.drew | apply Box.alloc | apply Box.two1 | (refine Box.other ?_ (by omega) _ _)))⟩ ?_
    rintro V ⟨hu, b0, b1, b2⟩
    have s0 := b0.cell 0 rfl
    have s1 := b0.cell 1 rfl
    have s2 := b0.cell 2 rfl
    have s3 := b0.cell 3 rfl
    have ls := b0.lt
    have f0 := b1.cell 0 rfl
    have f1 := b1.cell 1 rfl
    have f2 := b1.cell 2 rfl
    have f3 := b1.cell 3 rfl
    have f4 := b1.cell 4 rfl
    have f5 := b1.cell 5 rfl
    have f6 := b1.cell 6 rfl
    have f7 := b1.cell 7 rfl
    have f8 := b1.cell 8 rfl
    have f9 := b1.cell 9 rfl
    have f10 := b1.cell 10 rfl
    have lf := b1.lt
    have g0 := b2.cell 0 rfl
    have g1 := b2.cell 1 rfl
    have lg := b2.lt
    have HB := hide (hu)
    clear hu b0 b1 b2
    ((first | with_reducible refine wp_region_ext2 (by kernel_rfl) (by kernel_rfl) ?_ | refine wp_region_ext (by kernel_rfl) (by kernel_rfl) ?_); (repeat (go_big_quiet_step ((first | (go_at_call 136; with_reducible exact Gives.inRegion (HAT.out _ (by repeat (first | with_reducible exact HB.out | with_reducible apply Up.ext | with_reducible apply Up.alloc | with_reducible apply Up.drew)))) | (go_at_call 120; with_reducible exact Gives.inRegion (HS.out _ (by repeat (first | with_reducible exact HB.out | with_reducible apply Up.ext | with_reducible apply Up.alloc | with_reducible apply Up.drew)))))))); refine wpQuiet_nil ?_; intro _ hw'; obtain ⟨_, hw''⟩ := hw'; subst hw'')
    go_wp2
    go_ret
    exact ⟨ret_bool (by simp_all), (by repeat (first | with_reducible exact HB.out | with_reducible exact Up.refl _ | apply Up.ext | apply Up.alloc | apply Up.drew | (refine Up.setCell ?_ (by simp [World.setCell]; try omega) _)))⟩
  · rw [decide_eq_true h, decide_eq_true h', decide_eq_false h'', Bool.true_and, Bool.true_and]
    (unfold Gives; go_enter Tryz.func80, Tryz.ntmps80)
    go_wp2_with fail
    refine forgetW (fun V => Up w V ∧ Box V w.heap.size #[.slice a n c, .int .i64 home, .slice sa sn sc, .slice ca cn cc] 28 ∧ Box V (w.heap.size + 1) (offA o) 32 ∧ Box V (w.heap.size + 1 + 1) #[.int .i64 (m), .int .i64 (g)] 48) ⟨(by repeat (first | with_reducible exact Up.refl _ | with_reducible apply Up.plus | apply Up.ext | apply Up.alloc | apply Up.drew | (refine Up.setCell ?_ (by simp; try omega) _))), (by repeat (first | exact Box.mk rfl | (refine Box.mk ?_; simp; done) | apply Box.ext | apply Box.drew | apply Box.alloc | apply Box.two1 | (refine Box.other ?_ (by omega) _ _))), (by repeat (first | exact Box.mk rfl | (refine Box.mk ?_; simp; done) | apply Box.ext | apply Box.drew | apply Box.alloc | apply Box.two1 | (refine Box.other ?_ (by omega) _ _))), (by repeat (first | exact Box.mk rfl | (refine Box.mk ?_; simp; done) | apply Box.ext | apply Box.drew | apply Box.alloc | apply Box.two1 | (refine Box.other ?_ (by omega) _ _)))⟩ ?_
    rintro V ⟨hu, b0, b1, b2⟩
    have s0 := b0.cell 0 rfl
    have s1 := b0.cell 1 rfl
    have s2 := b0.cell 2 rfl
    have s3 := b0.cell 3 rfl
    have ls := b0.lt
    have f0 := b1.cell 0 rfl
    have f1 := b1.cell 1 rfl
    have f2 := b1.cell 2 rfl
    have f3 := b1.cell 3 rfl
    have f4 := b1.cell 4 rfl
    have f5 := b1.cell 5 rfl
    have f6 := b1.cell 6 rfl
    have f7 := b1.cell 7 rfl
    have f8 := b1.cell 8 rfl
    have f9 := b1.cell 9 rfl
    have f10 := b1.cell 10 rfl
    have lf := b1.lt
    have g0 := b2.cell 0 rfl
    have g1 := b2.cell 1 rfl
    have lg := b2.lt
    have HB := hide (hu)
    clear hu b0 b1 b2
    ((first | with_reducible refine wp_region_ext2 (by kernel_rfl) (by kernel_rfl) ?_ | refine wp_region_ext (by kernel_rfl) (by kernel_rfl) ?_); (repeat (go_big_quiet_step ((first | (go_at_call 136; with_reducible exact Gives.inRegion (HAT.out _ (by repeat (first | with_reducible exact HB.out | with_reducible apply Up.ext | with_reducible apply Up.alloc | with_reducible apply Up.drew)))) | (go_at_call 120; with_reducible exact Gives.inRegion (HS.out _ (by repeat (first | with_reducible exact HB.out | with_reducible apply Up.ext | with_reducible apply Up.alloc | with_reducible apply Up.drew)))))))); refine wpQuiet_nil ?_; intro _ hw'; obtain ⟨_, hw''⟩ := hw'; subst hw'')
    go_wp2
    go_ret
    exact ⟨ret_bool (by simp_all), (by repeat (first | with_reducible exact HB.out | with_reducible exact Up.refl _ | apply Up.ext | apply Up.alloc | apply Up.drew | (refine Up.setCell ?_ (by simp [World.setCell]; try omega) _)))⟩
  · rw [decide_eq_true h, decide_eq_true h', decide_eq_true h'', Bool.true_and, Bool.true_and]
    (unfold Gives; go_enter Tryz.func80, Tryz.ntmps80)
    go_wp2_with fail
    refine forgetW (fun V => Up w V ∧ Box V w.heap.size #[.slice a n c, .int .i64 home, .slice sa sn sc, .slice ca cn cc] 28 ∧ Box V (w.heap.size + 1) (offA o) 32 ∧ Box V (w.heap.size + 1 + 1) #[.int .i64 (m), .int .i64 (g)] 48) ⟨(by repeat (first | with_reducible exact Up.refl _ | with_reducible apply Up.plus | apply Up.ext | apply Up.alloc | apply Up.drew | (refine Up.setCell ?_ (by simp; try omega) _))), (by repeat (first | exact Box.mk rfl | (refine Box.mk ?_; simp; done) | apply Box.ext | apply Box.drew | apply Box.alloc | apply Box.two1 | (refine Box.other ?_ (by omega) _ _))), (by repeat (first | exact Box.mk rfl | (refine Box.mk ?_; simp; done) | apply Box.ext | apply Box.drew | apply Box.alloc | apply Box.two1 | (refine Box.other ?_ (by omega) _ _))), (by repeat (first | exact Box.mk rfl | (refine Box.mk ?_; simp; done) | apply Box.ext | apply Box.drew | apply Box.alloc | apply Box.two1 | (refine Box.other ?_ (by omega) _ _)))⟩ ?_
    rintro V ⟨hu, b0, b1, b2⟩
    have s0 := b0.cell 0 rfl
    have s1 := b0.cell 1 rfl
    have s2 := b0.cell 2 rfl
    have s3 := b0.cell 3 rfl
    have ls := b0.lt
    have f0 := b1.cell 0 rfl
    have f1 := b1.cell 1 rfl
    have f2 := b1.cell 2 rfl
    have f3 := b1.cell 3 rfl
    have f4 := b1.cell 4 rfl
    have f5 := b1.cell 5 rfl
    have f6 := b1.cell 6 rfl
    have f7 := b1.cell 7 rfl
    have f8 := b1.cell 8 rfl
    have f9 := b1.cell 9 rfl
    have f10 := b1.cell 10 rfl
    have lf := b1.lt
    have g0 := b2.cell 0 rfl
    have g1 := b2.cell 1 rfl
    have lg := b2.lt
    have HB := hide (hu)
    clear hu b0 b1 b2
    ((first | with_reducible refine wp_region_ext2 (by kernel_rfl) (by kernel_rfl) ?_ | refine wp_region_ext (by kernel_rfl) (by kernel_rfl) ?_); (repeat (go_big_quiet_step ((first | (go_at_call 136; with_reducible exact Gives.inRegion (HAT.out _ (by repeat (first | with_reducible exact HB.out | with_reducible apply Up.ext | with_reducible apply Up.alloc | with_reducible apply Up.drew)))) | (go_at_call 120; with_reducible exact Gives.inRegion (HS.out _ (by repeat (first | with_reducible exact HB.out | with_reducible apply Up.ext | with_reducible apply Up.alloc | with_reducible apply Up.drew)))))))); refine wpQuiet_nil ?_; intro _ hw'; obtain ⟨_, hw''⟩ := hw'; subst hw'')
    go_wp2
    go_ret
    exact ⟨ret_bool (by simp_all), (by repeat (first | with_reducible exact HB.out | with_reducible exact Up.refl _ | apply Up.ext | apply Up.alloc | apply Up.drew | (refine Up.setCell ?_ (by simp [World.setCell]; try omega) _)))⟩
set_option maxRecDepth 100000 in
set_option maxHeartbeats 4000000 in
theorem vDark_any {K : Nat → Prop} {w : World} {a sa ca : Option Addr} {n c sn sc cn cc : Nat} {s : SkyD} (hL : SkyL K w a n c sa sn sc ca cn cc s) (o : OffD) (m g : Int) : Gives Tryz.prog 27 #[.agg #[.slice a n c, .int .i64 s.home, .slice sa sn sc, .slice ca cn cc], .agg (offA o), .agg #[.int .i64 (m), .int .i64 (g)]] w (.bool (darkV s o m g)) := by
  have HC := hide (fun W (hu : Up w W) => vCheck_any (hL.up hu) o)
  have HM := hide (fun W (hu : Up w W) => vmoon_any (hL.up hu) m g)
  rw [darkV_moon]
  by_cases he : offE s o = 0
  rotate_left
  · rw [decide_eq_false he, Bool.false_and]
    have heb : (offE s o == 0) = false := by simpa using he
    generalize offE s o = e at *
    generalize s.home = home at *
    clear hL he HM
    (unfold Gives; go_enter Tryz.func27, Tryz.ntmps27)
    go_wp2_with fail
    go_at_call 17
    refine forgetK (fun V => Up w V ∧ Box V w.heap.size #[.slice a n c, .int .i64 home, .slice sa sn sc, .slice ca cn cc] 28 ∧ Box V (w.heap.size + 1) (offA o) 32 ∧ Box V (w.heap.size + 1 + 1) #[.int .i64 (m), .int .i64 (g)] 48) ⟨(by repeat (first | with_reducible exact Up.refl _ | with_reducible apply Up.plus | apply Up.ext | apply Up.alloc | apply Up.drew | (refine Up.setCell ?_ (by simp; try omega) _))), (by repeat (first | exact Box.mk rfl | (refine Box.mk ?_; simp; done) | apply Box.ext | apply Box.drew | apply Box.alloc | apply Box.two1 | (refine Box.other ?_ (by omega) _ _))), (by repeat (first | exact Box.mk rfl | (refine Box.mk ?_; simp; done) | apply Box.ext | apply Box.drew | apply Box.alloc | apply Box.two1 | (refine Box.other ?_ (by omega) _ _))), (by repeat (first | exact Box.mk rfl | (refine Box.mk ?_; simp; done) | apply Box.ext | apply Box.drew | apply Box.alloc | apply Box.two1 | (refine Box.other ?_ (by omega) _ _)))⟩ ?_
    rintro V ⟨hu, b0, b1, b2⟩
    have s0 := b0.cell 0 rfl
    have s1 := b0.cell 1 rfl
    have s2 := b0.cell 2 rfl
    have s3 := b0.cell 3 rfl
    have ls := b0.lt
    have f0 := b1.cell 0 rfl
    have f1 := b1.cell 1 rfl
    have f2 := b1.cell 2 rfl
    have f3 := b1.cell 3 rfl
    have f4 := b1.cell 4 rfl
    have f5 := b1.cell 5 rfl
    have f6 := b1.cell 6 rfl
    have f7 := b1.cell 7 rfl
    have f8 := b1.cell 8 rfl
    have f9 := b1.cell 9 rfl
    have f10 := b1.cell 10 rfl
    have lf := b1.lt
    have g0 := b2.cell 0 rfl
    have g1 := b2.cell 1 rfl
    have lg := b2.lt
    have HB := hide (hu)
    clear hu b0 b1 b2
    refine (HC.out _ HB.out).mono ?_
    intro q1
    go_wp2
    go_ret
    exact ⟨rfl, (by repeat (first | with_reducible exact HB.out | with_reducible exact Up.refl _ | apply Up.ext | apply Up.alloc | apply Up.drew | (refine Up.setCell ?_ (by simp [World.setCell]; try omega) _)))⟩
  rw [decide_eq_true he, Bool.true_and]
  rw [he] at HC
  by_cases hm : moonE s m g = 0
  rotate_left
  · rw [decide_eq_false hm, Bool.false_and]
    have hmb : (moonE s m g == 0) = false := by simpa using hm
    generalize moonE s m g = e at *
    generalize s.home = home at *
    clear hL he hm
    (unfold Gives; go_enter Tryz.func27, Tryz.ntmps27)
    go_wp2_with fail
    go_at_call 17
    refine forgetK (fun V => Up w V ∧ Box V w.heap.size #[.slice a n c, .int .i64 home, .slice sa sn sc, .slice ca cn cc] 28 ∧ Box V (w.heap.size + 1) (offA o) 32 ∧ Box V (w.heap.size + 1 + 1) #[.int .i64 (m), .int .i64 (g)] 48) ⟨(by repeat (first | with_reducible exact Up.refl _ | with_reducible apply Up.plus | apply Up.ext | apply Up.alloc | apply Up.drew | (refine Up.setCell ?_ (by simp; try omega) _))), (by repeat (first | exact Box.mk rfl | (refine Box.mk ?_; simp; done) | apply Box.ext | apply Box.drew | apply Box.alloc | apply Box.two1 | (refine Box.other ?_ (by omega) _ _))), (by repeat (first | exact Box.mk rfl | (refine Box.mk ?_; simp; done) | apply Box.ext | apply Box.drew | apply Box.alloc | apply Box.two1 | (refine Box.other ?_ (by omega) _ _))), (by repeat (first | exact Box.mk rfl | (refine Box.mk ?_; simp; done) | apply Box.ext | apply Box.drew | apply Box.alloc | apply Box.two1 | (refine Box.other ?_ (by omega) _ _)))⟩ ?_
    rintro V ⟨hu, b0, b1, b2⟩
    have s0 := b0.cell 0 rfl
    have s1 := b0.cell 1 rfl
    have s2 := b0.cell 2 rfl
    have s3 := b0.cell 3 rfl
    have ls := b0.lt
    have f0 := b1.cell 0 rfl
    have f1 := b1.cell 1 rfl
    have f2 := b1.cell 2 rfl
    have f3 := b1.cell 3 rfl
    have f4 := b1.cell 4 rfl
    have f5 := b1.cell 5 rfl
    have f6 := b1.cell 6 rfl
    have f7 := b1.cell 7 rfl
    have f8 := b1.cell 8 rfl
    have f9 := b1.cell 9 rfl
    have f10 := b1.cell 10 rfl
    have lf := b1.lt
    have g0 := b2.cell 0 rfl
    have g1 := b2.cell 1 rfl
    have lg := b2.lt
    have HB := hide (hu)
    clear hu b0 b1 b2
    refine (HC.out _ HB.out).mono ?_
    intro q1
    go_wp2_with (go_at_call 79; (with_reducible refine (HM.out _ (by repeat (first | with_reducible exact HB.out | with_reducible apply Up.ext | with_reducible apply Up.alloc | with_reducible apply Up.drew))).mono ?_); intro _)
    go_ret
    exact ⟨rfl, (by repeat (first | with_reducible exact HB.out | with_reducible exact Up.refl _ | apply Up.ext | apply Up.alloc | apply Up.drew | (refine Up.setCell ?_ (by simp [World.setCell]; try omega) _)))⟩
  rw [decide_eq_true hm, Bool.true_and]
  rw [hm] at HM
  have hg : 0 ≤ g ∧ g ≤ 1000000 := by
    unfold moonE at hm
    by_cases h1 : m < 0 ∨ (s.bodies.length : Int) ≤ m
    · rw [if_pos h1] at hm; omega
    · rw [if_neg h1] at hm
      by_cases h2 : withinB g 0 1000000 = true
      · unfold withinB at h2; exact of_decide_eq_true h2
      · rw [if_neg h2] at hm; omega
  have HD := hide (fun W (hu : Up w W) => vdark0_any (m := m) (hL.up hu) o he hg)
  generalize darkK s o m g = F at *
  generalize s.home = home at *
  clear hL he hm
  (unfold Gives; go_enter Tryz.func27, Tryz.ntmps27)
  go_wp2_with fail
  go_at_call 17
  refine forgetK (fun V => Up w V ∧ Box V w.heap.size #[.slice a n c, .int .i64 home, .slice sa sn sc, .slice ca cn cc] 28 ∧ Box V (w.heap.size + 1) (offA o) 32 ∧ Box V (w.heap.size + 1 + 1) #[.int .i64 (m), .int .i64 (g)] 48) ⟨(by repeat (first | with_reducible exact Up.refl _ | with_reducible apply Up.plus | apply Up.ext | apply Up.alloc | apply Up.drew | (refine Up.setCell ?_ (by simp; try omega) _))), (by repeat (first | exact Box.mk rfl | (refine Box.mk ?_; simp; done) | apply Box.ext | apply Box.drew | apply Box.alloc | apply Box.two1 | (refine Box.other ?_ (by omega) _ _))), (by repeat (first | exact Box.mk rfl | (refine Box.mk ?_; simp; done) | apply Box.ext | apply Box.drew | apply Box.alloc | apply Box.two1 | (refine Box.other ?_ (by omega) _ _))), (by repeat (first | exact Box.mk rfl | (refine Box.mk ?_; simp; done) | apply Box.ext | apply Box.drew | apply Box.alloc | apply Box.two1 | (refine Box.other ?_ (by omega) _ _)))⟩ ?_
  rintro V ⟨hu, b0, b1, b2⟩
  have s0 := b0.cell 0 rfl
  have s1 := b0.cell 1 rfl
  have s2 := b0.cell 2 rfl
  have s3 := b0.cell 3 rfl
  have ls := b0.lt
  have f0 := b1.cell 0 rfl
  have f1 := b1.cell 1 rfl
  have f2 := b1.cell 2 rfl
  have f3 := b1.cell 3 rfl
  have f4 := b1.cell 4 rfl
  have f5 := b1.cell 5 rfl
  have f6 := b1.cell 6 rfl
  have f7 := b1.cell 7 rfl
  have f8 := b1.cell 8 rfl
  have f9 := b1.cell 9 rfl
  have f10 := b1.cell 10 rfl
  have lf := b1.lt
  have g0 := b2.cell 0 rfl
  have g1 := b2.cell 1 rfl
  have lg := b2.lt
  have HB := hide (hu)
  clear hu b0 b1 b2
  refine (HC.out _ HB.out).mono ?_
  intro q1
  go_wp2_with (first | (go_at_call 79; (with_reducible refine (HM.out _ (by repeat (first | with_reducible exact HB.out | with_reducible apply Up.ext | with_reducible apply Up.alloc | with_reducible apply Up.drew))).mono ?_); intro _) | (go_at_call 80; (with_reducible refine (HD.out _ (by repeat (first | with_reducible exact HB.out | with_reducible apply Up.ext | with_reducible apply Up.alloc | with_reducible apply Up.drew))).mono ?_); intro _))
  go_ret
  exact ⟨rfl, (by repeat (first | with_reducible exact HB.out | with_reducible exact Up.refl _ | apply Up.ext | apply Up.alloc | apply Up.drew | (refine Up.setCell ?_ (by simp [World.setCell]; try omega) _)))⟩
end Go.Proofs.YtnaiaodnnmhdkaaGreat
