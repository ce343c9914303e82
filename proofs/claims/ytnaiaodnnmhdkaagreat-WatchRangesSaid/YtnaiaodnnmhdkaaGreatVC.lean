/- Reference bolideref06: the way to a place, slopes, what is in a field. Conditions: a valid offer, bounds. -/
import Derived.Test.YtnaiaodnnmhdkaaGreatVB
import Derived.Test.YtnaiaodnnmhdkaaGreatModk
namespace Go.Proofs.YtnaiaodnnmhdkaaGreat
set_option linter.unusedVariables false
set_option linter.unusedSimpArgs false
open Go.RowKit Go.Shelf

theorem knd_wx (s : SkyD) (o : OffD) : (kndOf s o).wx = (whereV s o.station o.tick).1 ∧ (kndOf s o).wy = (whereV s o.station o.tick).2.1 ∧ (kndOf s o).far = o.far ∧ (kndOf s o).err = o.err := by
  unfold kndOf
  by_cases h : o.kind = 2
  · rw [if_pos h]; exact ⟨rfl, rfl, rfl, rfl⟩
  · rw [if_neg h]; exact ⟨rfl, rfl, rfl, rfl⟩
theorem knd_sc {s : SkyD} {o : OffD} (h : ¬ o.kind = 2) : (kndOf s o).sc = true ∧ (kndOf s o).dx = o.dx ∧ (kndOf s o).dy = o.dy ∧ (kndOf s o).lo = (biasOf s o.catalog).1 ∧ (kndOf s o).hi = (biasOf s o.catalog).2 ∧ (kndOf s o).wide = o.wide := by
  unfold kndOf
  rw [if_neg h]; exact ⟨rfl, rfl, rfl, rfl, rfl, rfl⟩
theorem knd_ra {s : SkyD} {o : OffD} (h : o.kind = 2) : (kndOf s o).sc = false := by
  unfold kndOf
  rw [if_pos h]
set_option maxRecDepth 100000 in
set_option maxHeartbeats 4000000 in
theorem vto_any {K : Nat → Prop} {w : World} {a sa ca : Option Addr} {n c sn sc cn cc : Nat} {s : SkyD} (hL : SkyL K w a n c sa sn sc ca cn cc s) (o : OffD) (he : offE s o = 0) {x y : Int} (hp : PBd (x, y)) : Gives Tryz.prog 117 #[.agg #[.slice a n c, .int .i64 s.home, .slice sa sn sc, .slice ca cn cc], .agg (offA o), .agg #[.int .i64 (x), .int .i64 (y)]] w (.agg #[.int .i64 ((x - (kndOf s o).wx)), .int .i64 ((y - (kndOf s o).wy))]) := by
  have HW := hide (fun W (hu : Up w W) => sWhere_any (hL.up hu).b hL.h (hL.up hu).st (hL.up hu).ca o.station o.tick)
  have hk := kbd_of he
  obtain ⟨e1, e2, -, -⟩ := knd_wx s o
  rw [← e1, ← e2] at HW
  have hx := hk.wx
  have hy := hk.wy
  obtain ⟨oz, hoz⟩ : ∃ z, (whereV s o.station o.tick).2.2 = z := ⟨_, rfl⟩
  rw [hoz] at HW
  obtain ⟨⟨p1, p2⟩, p3, p4⟩ := hp
  dsimp only at p1 p2 p3 p4
  clear hoz e1 e2 hk he hL
  generalize (kndOf s o).wx = wx at *
  generalize (kndOf s o).wy = wy at *
  generalize s.home = home at *
  (unfold Gives; go_enter Tryz.func117, Tryz.ntmps117)
  go_wp2_with fail
  go_at_call 138
  refine forgetK (fun V => Up w V ∧ Box V w.heap.size #[.slice a n c, .int .i64 home, .slice sa sn sc, .slice ca cn cc] 28 ∧ Box V (w.heap.size + 1) (offA o) 32 ∧ Box V (w.heap.size + 1 + 1) #[.int .i64 (x), .int .i64 (y)] 30 ∧ Box V (w.heap.size + 1 + 1 + 1) #[.int .i64 (0), .int .i64 (0)] 30) ⟨(by repeat (first | with_reducible exact Up.refl _ | with_reducible apply Up.plus | apply Up.ext | apply Up.alloc | apply Up.drew | (refine Up.setCell ?_ (by simp; try omega) _))), (by repeat (first | exact Box.mk rfl | (refine Box.mk ?_; simp; done) | apply Box.ext | apply Box.drew | apply Box.alloc | apply Box.two1 | (refine Box.other ?_ (by omega) _ _))), (by repeat (first | exact Box.mk rfl | (refine Box.mk ?_; simp; done) | apply Box.ext | apply Box.drew | apply Box.alloc | apply Box.two1 | (refine Box.other ?_ (by omega) _ _))), (by repeat (first | exact Box.mk rfl | (refine Box.mk ?_; simp; done) | apply Box.ext | apply Box.drew | apply Box.alloc | apply Box.two1 | (refine Box.other ?_ (by omega) _ _))), (by repeat (first | exact Box.mk rfl | (refine Box.mk ?_; simp; done) | apply Box.ext | apply Box.drew | apply Box.alloc | apply Box.two1 | (refine Box.other ?_ (by omega) _ _)))⟩ ?_
  rintro V ⟨hu, -, -, bp, bz⟩
  refine (HW.out _ hu).mono ?_
  intro q1
  have g0 := bp.cell 0 rfl
  have g1 := bp.cell 1 rfl
  have lg := bp.lt
  have z0 := bz.cell 0 rfl
  have z1 := bz.cell 1 rfl
  have fz0 := bz.frozen 0
  have fz1 := bz.frozen 1
  have lz := bz.lt
  have HB := hide (And.intro hu bz)
  clear hu bp bz HW
  go_wp2_with fail
  refine forgetW (fun WF => Up w WF ∧ Box WF (w.heap.size + 1 + 1 + 1) #[.int .i64 ((x - wx)), .int .i64 ((y - wy))] 30) ⟨(by repeat (first | with_reducible exact HB.out.1 | with_reducible exact Up.refl _ | with_reducible apply Up.ext | with_reducible apply Up.alloc | with_reducible apply Up.drew | (with_reducible refine Up.setCell ?_ (by simp only; omega) _))), ?_⟩ ?_
  · exact (by (repeat (first | with_reducible apply Box.ext | with_reducible apply Box.alloc | with_reducible apply Box.drew)); exact ((HB.out.2.set 0 (.int .i64 (x - wx))).set 1 (.int .i64 (y - wy))))
  rintro WF ⟨huF, hbF⟩
  have w0 := hbF.cell 0 rfl
  have w1 := hbF.cell 1 rfl
  (refine bodyPost_give huF rfl ⟨_, (by simp [results, Tryz.results117, go_sem, w0, w1]; rfl), ?_⟩)
  rfl
set_option maxRecDepth 100000 in
set_option maxHeartbeats 4000000 in
theorem vslope_any {K : Nat → Prop} {w : World} {a sa ca : Option Addr} {n c sn sc cn cc : Nat} {s : SkyD} (hL : SkyL K w a n c sa sn sc ca cn cc s) (o : OffD) (he : offE s o = 0) (hs : ¬ o.kind = 2) {x y : Int} (hp : PBd (x, y)) : Gives Tryz.prog 120 #[.agg #[.slice a n c, .int .i64 s.home, .slice sa sn sc, .slice ca cn cc], .agg (offA o), .agg #[.int .i64 (x), .int .i64 (y)]] w (.tuple #[.int .i64 (1000000 * crK (kndOf s o) (x, y)), .int .i64 (doK (kndOf s o) (x, y))]) := by
  have HT := hide (fun W (hu : Up w W) => vto_any (hL.up hu) o he hp)
  have hk := kbd_of he
  have hsq := (sq_bdK hk hp).1
  have hcr := cr_bdK hk hp
  obtain ⟨-, e1, e2, -⟩ := knd_sc (s := s) hs
  unfold crK doK at hcr ⊢
  rw [e1, e2] at hcr ⊢
  dsimp only at hsq hcr ⊢
  obtain ⟨⟨c1, c2⟩, ⟨c3, c4⟩, c5, c6⟩ := hcr
  clear e1 e2 hk hs he hL hp
  generalize (kndOf s o).wx = wx at *
  generalize (kndOf s o).wy = wy at *
  generalize s.home = home at *
  (unfold Gives; go_enter Tryz.func120, Tryz.ntmps120)
  go_wp2_with fail
  go_at_call 117
  refine forgetK (fun V => Up w V ∧ Box V w.heap.size #[.slice a n c, .int .i64 home, .slice sa sn sc, .slice ca cn cc] 28 ∧ Box V (w.heap.size + 1) (offA o) 32 ∧ Box V (w.heap.size + 1 + 1) #[.int .i64 (x), .int .i64 (y)] 30) ⟨(by repeat (first | with_reducible exact Up.refl _ | with_reducible apply Up.plus | apply Up.ext | apply Up.alloc | apply Up.drew | (refine Up.setCell ?_ (by simp; try omega) _))), (by repeat (first | exact Box.mk rfl | (refine Box.mk ?_; simp; done) | apply Box.ext | apply Box.drew | apply Box.alloc | apply Box.two1 | (refine Box.other ?_ (by omega) _ _))), (by repeat (first | exact Box.mk rfl | (refine Box.mk ?_; simp; done) | apply Box.ext | apply Box.drew | apply Box.alloc | apply Box.two1 | (refine Box.other ?_ (by omega) _ _))), (by repeat (first | exact Box.mk rfl | (refine Box.mk ?_; simp; done) | apply Box.ext | apply Box.drew | apply Box.alloc | apply Box.two1 | (refine Box.other ?_ (by omega) _ _)))⟩ ?_
  rintro V ⟨hu, b0, b1, b2⟩
  have s0 := b0.cell 0 rfl
  have s1 := b0.cell 1 rfl
  have s2 := b0.cell 2 rfl
  have s3 := b0.cell 3 rfl
  have ls := b0.lt
  have f0 := b1.cell 0 rfl
  have f1 := b1.cell 1 rfl
  have f2 := b1.cell 2 rfl
  have f3 := b1.cell 3 rfl
  have f4 := b1.cell 4 rfl
  have f5 := b1.cell 5 rfl
  have f6 := b1.cell 6 rfl
  have f7 := b1.cell 7 rfl
  have f8 := b1.cell 8 rfl
  have f9 := b1.cell 9 rfl
  have f10 := b1.cell 10 rfl
  have lf := b1.lt
  have g0 := b2.cell 0 rfl
  have g1 := b2.cell 1 rfl
  have lg := b2.lt
  have HB := hide (hu)
  clear hu b0 b1 b2
  refine (HT.out _ HB.out).mono ?_
  intro q1
  go_wp2_with fail
  ((first | with_reducible refine wp_region_ext2 (by kernel_rfl) (by kernel_rfl) ?_ | refine wp_region_ext (by kernel_rfl) (by kernel_rfl) ?_); (repeat (go_big_quiet_step (fail))); refine wpQuiet_nil ?_; intro _ hw'; obtain ⟨_, hw''⟩ := hw'; subst hw'')
  go_wp2
  refine bodyPost_give (by repeat (first | with_reducible exact HB.out | with_reducible exact Up.refl _ | apply Up.ext | apply Up.alloc | apply Up.drew | (refine Up.setCell ?_ (by simp [World.setCell]; try omega) _))) rfl ⟨_, (by simp [results, Tryz.results120, go_sem]; rfl), ?_⟩
  rfl
set_option maxRecDepth 100000 in
set_option maxHeartbeats 4000000 in
theorem vfield0_any {K : Nat → Prop} {w : World} {a sa ca : Option Addr} {n c sn sc cn cc : Nat} {s : SkyD} (hL : SkyL K w a n c sa sn sc ca cn cc s) (o : OffD) (he : offE s o = 0) {x y : Int} (hp : PBd (x, y)) : Gives Tryz.prog 70 #[.agg #[.slice a n c, .int .i64 s.home, .slice sa sn sc, .slice ca cn cc], .agg (offA o), .agg #[.int .i64 (x), .int .i64 (y)]] w (.bool (fieldK (kndOf s o) (x, y))) := by
  have HT := hide (fun W (hu : Up w W) => vto_any (hL.up hu) o he hp)
  have hk := kbd_of he
  have hsq := sq_bdK hk hp
  have HQ := hide (fun W => vsquare_any (x := x - (kndOf s o).wx) (y := y - (kndOf s o).wy) ⟨by have := hsq.1.1.1; omega, by have := hsq.1.1.2; omega⟩ ⟨by have := hsq.1.2.1; omega, by have := hsq.1.2.2; omega⟩ W)
  obtain ⟨-, -, ef, -⟩ := knd_wx s o
  have hf := hk.far
  rw [ef] at hf
  have hff := mul_abs (x := o.far) (y := o.far) (B := 134217728) (C := 134217728) (by omega) (by omega) (by omega) (by omega)
  have e4 : (134217728 : Int) * 134217728 = 18014398509481984 := by decide
  rw [e4] at hff
  have hS : (x - (kndOf s o).wx) * (x - (kndOf s o).wx) + (y - (kndOf s o).wy) * (y - (kndOf s o).wy) = sqK (kndOf s o) (x, y) := rfl
  rw [hS] at HQ
  have hR : reachK (kndOf s o) (x, y) = decide (sqK (kndOf s o) (x, y) ≤ o.far * o.far) := by unfold reachK; rw [ef]
  obtain ⟨Q, hQ⟩ : ∃ Q, sqK (kndOf s o) (x, y) = Q := ⟨_, rfl⟩
  have hQb : 0 ≤ Q ∧ Q ≤ 9290873254707200 := by rw [← hQ]; exact hsq.2.2.2
  rw [hQ] at HQ hR
  by_cases hr : o.far * o.far < Q
  · have hF : fieldK (kndOf s o) (x, y) = false := by
      unfold fieldK
      rw [hR, decide_eq_false (by omega), Bool.false_and]
    rw [hF]
    clear hF hR hQ hS hsq ef hk he hL hp
    generalize (kndOf s o).wx = wx at *
    generalize (kndOf s o).wy = wy at *
    generalize s.home = home at *
    (unfold Gives; go_enter Tryz.func70, Tryz.ntmps70)
    go_wp2_with fail
    refine forgetW (fun V => Up w V ∧ Box V w.heap.size #[.slice a n c, .int .i64 home, .slice sa sn sc, .slice ca cn cc] 28 ∧ Box V (w.heap.size + 1) (offA o) 32 ∧ Box V (w.heap.size + 1 + 1) #[.int .i64 (x), .int .i64 (y)] 30) ⟨(by repeat (first | with_reducible exact Up.refl _ | with_reducible apply Up.plus | apply Up.ext | apply Up.alloc | apply Up.drew | (refine Up.setCell ?_ (by simp; try omega) _))), (by repeat (first | exact Box.mk rfl | (refine Box.mk ?_; simp; done) | apply Box.ext | apply Box.drew | apply Box.alloc | apply Box.two1 | (refine Box.other ?_ (by omega) _ _))), (by repeat (first | exact Box.mk rfl | (refine Box.mk ?_; simp; done) | apply Box.ext | apply Box.drew | apply Box.alloc | apply Box.two1 | (refine Box.other ?_ (by omega) _ _))), (by repeat (first | exact Box.mk rfl | (refine Box.mk ?_; simp; done) | apply Box.ext | apply Box.drew | apply Box.alloc | apply Box.two1 | (refine Box.other ?_ (by omega) _ _)))⟩ ?_
    rintro V ⟨hu, b0, b1, b2⟩
    have s0 := b0.cell 0 rfl
    have s1 := b0.cell 1 rfl
    have s2 := b0.cell 2 rfl
    have s3 := b0.cell 3 rfl
    have ls := b0.lt
    have f0 := b1.cell 0 rfl
    have f1 := b1.cell 1 rfl
    have f2 := b1.cell 2 rfl
    have f3 := b1.cell 3 rfl
    have f4 := b1.cell 4 rfl
    have f5 := b1.cell 5 rfl
    have f6 := b1.cell 6 rfl
    have f7 := b1.cell 7 rfl
    have f8 := b1.cell 8 rfl
    have f9 := b1.cell 9 rfl
    have f10 := b1.cell 10 rfl
    have lf := b1.lt
    have g0 := b2.cell 0 rfl
    have g1 := b2.cell 1 rfl
    have lg := b2.lt
    have HB := hide (hu)
    clear hu b0 b1 b2
    ((first | with_reducible refine wp_region_ext2 (by kernel_rfl) (by kernel_rfl) ?_ | refine wp_region_ext (by kernel_rfl) (by kernel_rfl) ?_); (repeat (go_big_quiet_step ((first | (go_at_call 117; with_reducible exact Gives.inRegion (HT.out _ (HB.out.ext _))) | (go_at_call 116; with_reducible exact Gives.inRegion (HQ.out _)))))); refine wpQuiet_nil ?_; intro _ hw'; obtain ⟨_, hw''⟩ := hw'; subst hw'')
    go_wp2
    go_ret
    exact ⟨rfl, (by repeat (first | with_reducible exact HB.out | with_reducible exact Up.refl _ | apply Up.ext | apply Up.alloc | apply Up.drew | (refine Up.setCell ?_ (by simp [World.setCell]; try omega) _)))⟩
  have hR2 : reachK (kndOf s o) (x, y) = true := by rw [hR]; exact decide_eq_true (by omega)
  by_cases h2 : o.kind = 2
  · have hF : fieldK (kndOf s o) (x, y) = true := by
      unfold fieldK
      rw [hR2, knd_ra h2]; rfl
    rw [hF]
    have h2b : (o.kind == 2) = true := by simp [h2]
    clear h2 hF hR hR2 hQ hS hsq ef hk he hL hp
    generalize (kndOf s o).wx = wx at *
    generalize (kndOf s o).wy = wy at *
    generalize s.home = home at *
    (unfold Gives; go_enter Tryz.func70, Tryz.ntmps70)
    go_wp2_with fail
    refine forgetW (fun V => Up w V ∧ Box V w.heap.size #[.slice a n c, .int .i64 home, .slice sa sn sc, .slice ca cn cc] 28 ∧ Box V (w.heap.size + 1) (offA o) 32 ∧ Box V (w.heap.size + 1 + 1) #[.int .i64 (x), .int .i64 (y)] 30) ⟨(by repeat (first | with_reducible exact Up.refl _ | with_reducible apply Up.plus | apply Up.ext | apply Up.alloc | apply Up.drew | (refine Up.setCell ?_ (by simp; try omega) _))), (by repeat (first | exact Box.mk rfl | (refine Box.mk ?_; simp; done) | apply Box.ext | apply Box.drew | apply Box.alloc | apply Box.two1 | (refine Box.other ?_ (by omega) _ _))), (by repeat (first | exact Box.mk rfl | (refine Box.mk ?_; simp; done) | apply Box.ext | apply Box.drew | apply Box.alloc | apply Box.two1 | (refine Box.other ?_ (by omega) _ _))), (by repeat (first | exact Box.mk rfl | (refine Box.mk ?_; simp; done) | apply Box.ext | apply Box.drew | apply Box.alloc | apply Box.two1 | (refine Box.other ?_ (by omega) _ _)))⟩ ?_
    rintro V ⟨hu, b0, b1, b2⟩
    have s0 := b0.cell 0 rfl
    have s1 := b0.cell 1 rfl
    have s2 := b0.cell 2 rfl
    have s3 := b0.cell 3 rfl
    have ls := b0.lt
    have f0 := b1.cell 0 rfl
    have f1 := b1.cell 1 rfl
    have f2 := b1.cell 2 rfl
    have f3 := b1.cell 3 rfl
    have f4 := b1.cell 4 rfl
    have f5 := b1.cell 5 rfl
    have f6 := b1.cell 6 rfl
    have f7 := b1.cell 7 rfl
    have f8 := b1.cell 8 rfl
    have f9 := b1.cell 9 rfl
    have f10 := b1.cell 10 rfl
    have lf := b1.lt
    have g0 := b2.cell 0 rfl
    have g1 := b2.cell 1 rfl
    have lg := b2.lt
    have HB := hide (hu)
    clear hu b0 b1 b2
    ((first | with_reducible refine wp_region_ext2 (by kernel_rfl) (by kernel_rfl) ?_ | refine wp_region_ext (by kernel_rfl) (by kernel_rfl) ?_); (repeat (go_big_quiet_step ((first | (go_at_call 117; with_reducible exact Gives.inRegion (HT.out _ (HB.out.ext _))) | (go_at_call 116; with_reducible exact Gives.inRegion (HQ.out _)))))); refine wpQuiet_nil ?_; intro _ hw'; obtain ⟨_, hw''⟩ := hw'; subst hw'')
    go_wp2
    go_ret
    exact ⟨rfl, (by repeat (first | with_reducible exact HB.out | with_reducible exact Up.refl _ | apply Up.ext | apply Up.alloc | apply Up.drew | (refine Up.setCell ?_ (by simp [World.setCell]; try omega) _)))⟩
  have HS := hide (fun W (hu : Up w W) => vslope_any (hL.up hu) o he h2 hp)
  obtain ⟨e0, -, -, -, -, e5⟩ := knd_sc (s := s) h2
  have hw := hk.wide
  rw [e5] at hw
  have hcr := (cr_bdK hk hp).2.2
  have hF : fieldK (kndOf s o) (x, y) = (decide (0 < doK (kndOf s o) (x, y)) && (decide (-o.wide * doK (kndOf s o) (x, y) ≤ 1000000 * crK (kndOf s o) (x, y)) && decide (1000000 * crK (kndOf s o) (x, y) ≤ o.wide * doK (kndOf s o) (x, y)))) := by
    unfold fieldK withinK
    rw [hR2, e0, e5]; rfl
  rw [hF]
  obtain ⟨C, hC⟩ : ∃ C, crK (kndOf s o) (x, y) = C := ⟨_, rfl⟩
  obtain ⟨D, hD⟩ : ∃ D, doK (kndOf s o) (x, y) = D := ⟨_, rfl⟩
  rw [hC, hD] at hcr HS ⊢
  clear hF hR hR2 hQ hS hsq ef e0 e5 hk he hL hp hC hD
  generalize (kndOf s o).wx = wx at *
  generalize (kndOf s o).wy = wy at *
  generalize s.home = home at *
  have hm := mul_abs (x := o.wide) (y := D) (B := 1000000) (C := 558345748480) (by omega) (by omega) (by omega) (by omega)
  have hmn : -o.wide * D = -(o.wide * D) := Int.neg_mul _ _
  have hnn : -(o.wide) * D = -(o.wide * D) := Int.neg_mul _ _
  rw [hmn]
  obtain ⟨c1, c2⟩ : -1000000000000000000 ≤ 1000000 * C ∧ 1000000 * C ≤ 1000000000000000000 := by omega
  have hcase : (¬ 0 < D) ∨ (0 < D ∧ ¬ -(o.wide * D) ≤ 1000000 * C) ∨ (0 < D ∧ -(o.wide * D) ≤ 1000000 * C ∧ ¬ 1000000 * C ≤ o.wide * D) ∨ (0 < D ∧ -(o.wide * D) ≤ 1000000 * C ∧ 1000000 * C ≤ o.wide * D) := by omega
  have e6 : (1000000 : Int) * 558345748480 = 558345748480000000 := by decide
  rw [e6] at hm
  rcases hcase with h | ⟨h, h'⟩ | ⟨h, h', h''⟩ | ⟨h, h', h''⟩
  · rw [decide_eq_false h, Bool.false_and]
    (unfold Gives; go_enter Tryz.func70, Tryz.ntmps70)
    go_wp2_with fail
    refine forgetW (fun V => Up w V ∧ Box V w.heap.size #[.slice a n c, .int .i64 home, .slice sa sn sc, .slice ca cn cc] 28 ∧ Box V (w.heap.size + 1) (offA o) 32 ∧ Box V (w.heap.size + 1 + 1) #[.int .i64 (x), .int .i64 (y)] 30) ⟨(by repeat (first | with_reducible exact Up.refl _ | with_reducible apply Up.plus | apply Up.ext | apply Up.alloc | apply Up.drew | (refine Up.setCell ?_ (by simp; try omega) _))), (by repeat (first | exact Box.mk rfl | (refine Box.mk ?_; simp; done) | apply Box.ext | apply Box.drew | apply Box.alloc | apply Box.two1 | (refine Box.other ?_ (by omega) _ _))), (by repeat (first | exact Box.mk rfl | (refine Box.mk ?_; simp; done) | apply Box.ext | apply Box.drew | apply Box.alloc | apply Box.two1 | (refine Box.other ?_ (by omega) _ _))), (by repeat (first | exact Box.mk rfl | (refine Box.mk ?_; simp; done) | apply Box.ext | apply Box.drew | apply Box.alloc | apply Box.two1 | (refine Box.other ?_ (by omega) _ _)))⟩ ?_
    rintro V ⟨hu, b0, b1, b2⟩
    have s0 := b0.cell 0 rfl
    have s1 := b0.cell 1 rfl
    have s2 := b0.cell 2 rfl
    have s3 := b0.cell 3 rfl
    have ls := b0.lt
    have f0 := b1.cell 0 rfl
    have f1 := b1.cell 1 rfl
    have f2 := b1.cell 2 rfl
    have f3 := b1.cell 3 rfl
    have f4 := b1.cell 4 rfl
    have f5 := b1.cell 5 rfl
    have f6 := b1.cell 6 rfl
    have f7 := b1.cell 7 rfl
    have f8 := b1.cell 8 rfl
    have f9 := b1.cell 9 rfl
    have f10 := b1.cell 10 rfl
    have lf := b1.lt
    have g0 := b2.cell 0 rfl
    have g1 := b2.cell 1 rfl
    have lg := b2.lt
    have HB := hide (hu)
    clear hu b0 b1 b2
    ((first | with_reducible refine wp_region_ext2 (by kernel_rfl) (by kernel_rfl) ?_ | refine wp_region_ext (by kernel_rfl) (by kernel_rfl) ?_); (repeat (go_big_quiet_step ((first | (go_at_call 117; with_reducible exact Gives.inRegion (HT.out _ (HB.out.ext _))) | (go_at_call 116; with_reducible exact Gives.inRegion (HQ.out _)))))); refine wpQuiet_nil ?_; intro _ hw'; obtain ⟨_, hw''⟩ := hw'; subst hw'')
    go_wp2_with fail
    go_at_call 120
    refine (HS.out _ (by repeat (first | with_reducible exact HB.out | with_reducible apply Up.ext | with_reducible apply Up.alloc | with_reducible apply Up.drew))).mono ?_
    intro q2
    go_wp2
    go_ret
    exact ⟨ret_bool (by simp_all), (by repeat (first | with_reducible exact HB.out | with_reducible exact Up.refl _ | apply Up.ext | apply Up.alloc | apply Up.drew | (refine Up.setCell ?_ (by simp [World.setCell]; try omega) _)))⟩
  · rw [decide_eq_true h, decide_eq_false h', Bool.true_and, Bool.false_and]
    (unfold Gives; go_enter Tryz.func70, Tryz.ntmps70)
    go_wp2_with fail
    refine forgetW (fun V => Up w V ∧ Box V w.heap.size #[.slice a n c, .int .i64 home, .slice sa sn sc, .slice ca cn cc] 28 ∧ Box V (w.heap.size + 1) (offA o) 32 ∧ Box V (w.heap.size + 1 + 1) #[.int .i64 (x), .int .i64 (y)] 30) ⟨(by repeat (first | with_reducible exact Up.refl _ | with_reducible apply Up.plus | apply Up.ext | apply Up.alloc | apply Up.drew | (refine Up.setCell ?_ (by simp; try omega) _))), (by repeat (first | exact Box.mk rfl | (refine Box.mk ?_; simp; done) | apply Box.ext | apply Box.drew | apply Box.alloc | apply Box.two1 | (refine Box.other ?_ (by omega) _ _))), (by repeat (first | exact Box.mk rfl | (refine Box.mk ?_; simp; done) | apply Box.ext | apply Box.drew | apply Box.alloc | apply Box.two1 | (refine Box.other ?_ (by omega) _ _))), (by repeat (first | exact Box.mk rfl | (refine Box.mk ?_; simp; done) | apply Box.ext | apply Box.drew | apply Box.alloc | apply Box.two1 | (refine Box.other ?_ (by omega) _ _)))⟩ ?_
    rintro V ⟨hu, b0, b1, b2⟩
    have s0 := b0.cell 0 rfl
    have s1 := b0.cell 1 rfl
    have s2 := b0.cell 2 rfl
    have s3 := b0.cell 3 rfl
    have ls := b0.lt
    have f0 := b1.cell 0 rfl
    have f1 := b1.cell 1 rfl
    have f2 := b1.cell 2 rfl
    have f3 := b1.cell 3 rfl
    have f4 := b1.cell 4 rfl
    have f5 := b1.cell 5 rfl
    have f6 := b1.cell 6 rfl
    have f7 := b1.cell 7 rfl
    have f8 := b1.cell 8 rfl
    have f9 := b1.cell 9 rfl
    have f10 := b1.cell 10 rfl
    have lf := b1.lt
    have g0 := b2.cell 0 rfl
    have g1 := b2.cell 1 rfl
    have lg := b2.lt
    have HB := hide (hu)
    clear hu b0 b1 b2
    ((first | with_reducible refine wp_region_ext2 (by kernel_rfl) (by kernel_rfl) ?_ | refine wp_region_ext (by kernel_rfl) (by kernel_rfl) ?_); (repeat (go_big_quiet_step ((first | (go_at_call 117; with_reducible exact Gives.inRegion (HT.out _ (HB.out.ext _))) | (go_at_call 116; with_reducible exact Gives.inRegion (HQ.out _)))))); refine wpQuiet_nil ?_; intro _ hw'; obtain ⟨_, hw''⟩ := hw'; subst hw'')
    go_wp2_with fail
    go_at_call 120
    refine (HS.out _ (by repeat (first | with_reducible exact HB.out | with_reducible apply Up.ext | with_reducible apply Up.alloc | with_reducible apply Up.drew))).mono ?_
    intro q2
    go_wp2
    go_ret
    exact ⟨ret_bool (by simp_all), (by repeat (first | with_reducible exact HB.out | with_reducible exact Up.refl _ | apply Up.ext | apply Up.alloc | apply Up.drew | (refine Up.setCell ?_ (by simp [World.setCell]; try omega) _)))⟩
  · rw [decide_eq_true h, decide_eq_true h', decide_eq_false h'', Bool.true_and, Bool.true_and]
    (unfold Gives; go_enter Tryz.func70, Tryz.ntmps70)
    go_wp2_with fail
    refine forgetW (fun V => Up w V ∧ Box V w.heap.size #[.slice a n c, .int .i64 home, .slice sa sn sc, .slice ca cn cc] 28 ∧ Box V (w.heap.size + 1) (offA o) 32 ∧ Box V (w.heap.size + 1 + 1) #[.int .i64 (x), .int .i64 (y)] 30) ⟨(by repeat (first | with_reducible exact Up.refl _ | with_reducible apply Up.plus | apply Up.ext | apply Up.alloc | apply Up.drew | (refine Up.setCell ?_ (by simp; try omega) _))), (by repeat (first | exact Box.mk rfl | (refine Box.mk ?_; simp; done) | apply Box.ext | apply Box.drew | apply Box.alloc | apply Box.two1 | (refine Box.other ?_ (by omega) _ _))), (by repeat (first | exact Box.mk rfl | (refine Box.mk ?_; simp; done) | apply Box.ext | apply Box.drew | apply Box.alloc | apply Box.two1 | (refine Box.other ?_ (by omega) _ _))), (by repeat (first | exact Box.mk rfl | (refine Box.mk ?_; simp; done) | apply Box.ext | apply Box.drew | apply Box.alloc | apply Box.two1 | (refine Box.other ?_ (by omega) _ _)))⟩ ?_
    rintro V ⟨hu, b0, b1, b2⟩
    have s0 := b0.cell 0 rfl
    have s1 := b0.cell 1 rfl
    have s2 := b0.cell 2 rfl
    have s3 := b0.cell 3 rfl
    have ls := b0.lt
    have f0 := b1.cell 0 rfl
    have f1 := b1.cell 1 rfl
    have f2 := b1.cell 2 rfl
    have f3 := b1.cell 3 rfl
    have f4 := b1.cell 4 rfl
    have f5 := b1.cell 5 rfl
    have f6 := b1.cell 6 rfl
    have f7 := b1.cell 7 rfl
    have f8 := b1.cell 8 rfl
    have f9 := b1.cell 9 rfl
    have f10 := b1.cell 10 rfl
    have lf := b1.lt
    have g0 := b2.cell 0 rfl
    have g1 := b2.cell 1 rfl
    have lg := b2.lt
    have HB := hide (hu)
    clear hu b0 b1 b2
    ((first | with_reducible refine wp_region_ext2 (by kernel_rfl) (by kernel_rfl) ?_ | refine wp_region_ext (by kernel_rfl) (by kernel_rfl) ?_); (repeat (go_big_quiet_step ((first | (go_at_call 117; with_reducible exact Gives.inRegion (HT.out _ (HB.out.ext _))) | (go_at_call 116; with_reducible exact Gives.inRegion (HQ.out _)))))); refine wpQuiet_nil ?_; intro _ hw'; obtain ⟨_, hw''⟩ := hw'; subst hw'')
    go_wp2_with fail
    go_at_call 120
    refine (HS.out _ (by repeat (first | with_reducible exact HB.out | with_reducible apply Up.ext | with_reducible apply Up.alloc | with_reducible apply Up.drew))).mono ?_
    intro q2
    go_wp2
    go_ret
    exact ⟨ret_bool (by simp_all), (by repeat (first | with_reducible exact HB.out | with_reducible exact Up.refl _ | apply Up.ext | apply Up.alloc | apply Up.drew | (refine Up.setCell ?_ (by simp [World.setCell]; try omega) _)))⟩
  · rw [decide_eq_true h, decide_eq_true h', decide_eq_true h'', Bool.true_and, Bool.true_and]
    (unfold Gives; go_enter Tryz.func70, Tryz.ntmps70)
    go_wp2_with fail
    refine forgetW (fun V => Up w V ∧ Box V w.heap.size #[.slice a n c, .int .i64 home, .slice sa sn sc, .slice ca cn cc] 28 ∧ Box V (w.heap.size + 1) (offA o) 32 ∧ Box V (w.heap.size + 1 + 1) #[.int .i64 (x), .int .i64 (y)] 30) ⟨(by repeat (first | with_reducible exact Up.refl _ | with_reducible apply Up.plus | apply Up.ext | apply Up.alloc | apply Up.drew | (refine Up.setCell ?_ (by simp; try omega) _))), (by repeat (first | exact Box.mk rfl | (refine Box.mk ?_; simp; done) | apply Box.ext | apply Box.drew | apply Box.alloc | apply Box.two1 | (refine Box.other ?_ (by omega) _ _))), (by repeat (first | exact Box.mk rfl | (refine Box.mk ?_; simp; done) | apply Box.ext | apply Box.drew | apply Box.alloc | apply Box.two1 | (refine Box.other ?_ (by omega) _ _))), (by repeat (first | exact Box.mk rfl | (refine Box.mk ?_; simp; done) | apply Box.ext | apply Box.drew | apply Box.alloc | apply Box.two1 | (refine Box.other ?_ (by omega) _ _)))⟩ ?_
    rintro V ⟨hu, b0, b1, b2⟩
    have s0 := b0.cell 0 rfl
    have s1 := b0.cell 1 rfl
    have s2 := b0.cell 2 rfl
    have s3 := b0.cell 3 rfl
    have ls := b0.lt
    have f0 := b1.cell 0 rfl
    have f1 := b1.cell 1 rfl
    have f2 := b1.cell 2 rfl
    have f3 := b1.cell 3 rfl
    have f4 := b1.cell 4 rfl
    have f5 := b1.cell 5 rfl
    have f6 := b1.cell 6 rfl
    have f7 := b1.cell 7 rfl
    have f8 := b1.cell 8 rfl
    have f9 := b1.cell 9 rfl
    have f10 := b1.cell 10 rfl
    have lf := b1.lt
    have g0 := b2.cell 0 rfl
    have g1 := b2.cell 1 rfl
    have lg := b2.lt
    have HB := hide (hu)
    clear hu b0 b1 b2
    ((first | with_reducible refine wp_region_ext2 (by kernel_rfl) (by kernel_rfl) ?_ | refine wp_region_ext (by kernel_rfl) (by kernel_rfl) ?_); (repeat (go_big_quiet_step ((first | (go_at_call 117; with_reducible exact Gives.inRegion (HT.out _ (HB.out.ext _))) | (go_at_call 116; with_reducible exact Gives.inRegion (HQ.out _)))))); refine wpQuiet_nil ?_; intro _ hw'; obtain ⟨_, hw''⟩ := hw'; subst hw'')
    go_wp2_with fail
    go_at_call 120
    refine (HS.out _ (by repeat (first | with_reducible exact HB.out | with_reducible apply Up.ext | with_reducible apply Up.alloc | with_reducible apply Up.drew))).mono ?_
    intro q2
    go_wp2
    go_ret
    exact ⟨ret_bool (by simp_all), (by repeat (first | with_reducible exact HB.out | with_reducible exact Up.refl _ | apply Up.ext | apply Up.alloc | apply Up.drew | (refine Up.setCell ?_ (by simp [World.setCell]; try omega) _)))⟩
end Go.Proofs.YtnaiaodnnmhdkaaGreat
