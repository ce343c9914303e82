/- Reference bolideref06: what is read of a place. Conditions: a valid offer, bounds. -/
import Derived.Test.YtnaiaodnnmhdkaaGreatWplain
import Derived.Test.YtnaiaodnnmhdkaaGreatWatchF
import Derived.Test.YtnaiaodnnmhdkaaGreatWatchM
namespace Go.Proofs.YtnaiaodnnmhdkaaGreat
set_option linter.unusedVariables false
set_option linter.unusedSimpArgs false
open Go.RowKit Go.Shelf

theorem bias_knd {s : SkyD} {o : OffD} (he : offE s o = 0) (h : ¬ o.kind = 2) : biasV s.catalogs o.catalog = (((kndOf s o).lo, (kndOf s o).hi), true) := by
  obtain ⟨hs, _, _, _, _, _, _, hrest⟩ := offE_zero he
  obtain ⟨hc, _⟩ := hrest h
  obtain ⟨x, hf, _, e, _⟩ := bias_ok hs hc
  obtain ⟨-, -, -, e1, e2, -⟩ := knd_sc (s := s) h
  unfold biasV
  rw [hf, e1, e2, e]
theorem vRoot_eq {n : Int} (h0 : 0 ≤ n) (h1 : n ≤ 4611686018427387904) (w : World) : Gives Tryz.prog 119 #[.int .i64 n] w (.int .i64 (isq n)) := by
  have := rRoot_any n (by omega) (by omega) w
  rwa [rootV_nonneg h0] at this
set_option maxRecDepth 100000 in
set_option maxHeartbeats 4000000 in
theorem vreads0_any {K : Nat → Prop} {w : World} {a sa ca : Option Addr} {n c sn sc cn cc : Nat} {s : SkyD} (hL : SkyL K w a n c sa sn sc ca cn cc s) (o : OffD) (he : offE s o = 0) {x y : Int} (hp : PBd (x, y)) (hF : fieldK (kndOf s o) (x, y) = true) : Gives Tryz.prog 59 #[.agg #[.slice a n c, .int .i64 s.home, .slice sa sn sc, .slice ca cn cc], .agg (offA o), .agg #[.int .i64 (x), .int .i64 (y)]] w (.agg #[.int .i64 ((readsK (kndOf s o) (x, y)).1), .int .i64 ((readsK (kndOf s o) (x, y)).2)]) := by
  have hk := kbd_of he
  have hsq := sq_bdK hk hp
  obtain ⟨-, -, -, ee⟩ := knd_wx s o
  have her := hk.err
  by_cases h2 : o.kind = 2
  · have HT := hide (fun W (hu : Up w W) => vto_any (hL.up hu) o he hp)
    have HQ := hide (fun W => vsquare_any (x := x - (kndOf s o).wx) (y := y - (kndOf s o).wy) ⟨by have := hsq.1.1.1; omega, by have := hsq.1.1.2; omega⟩ ⟨by have := hsq.1.2.1; omega, by have := hsq.1.2.2; omega⟩ W)
    have hS : (x - (kndOf s o).wx) * (x - (kndOf s o).wx) + (y - (kndOf s o).wy) * (y - (kndOf s o).wy) = sqK (kndOf s o) (x, y) := rfl
    rw [hS] at HQ
    obtain ⟨-, -, h0, h1⟩ := hsq.2
    have HU := hide (fun W => vrootup_any h0 (by omega) W)
    have HR := hide (fun W => vRoot_eq h0 (by omega) W)
    have i1 := isq_spec (sqK (kndOf s o) (x, y)) h0 (by omega)
    have i2 := upq_spec (x := sqK (kndOf s o) (x, y)) h0 (by omega)
    have i3 := isq_self h0 (by omega)
    have i4 : upq (sqK (kndOf s o) (x, y)) ≤ isq (sqK (kndOf s o) (x, y)) + 1 := by unfold upq; split <;> omega
    unfold readsK
    rw [if_neg (by rw [knd_ra h2]; simp)]
    dsimp only
    rw [ee] at her ⊢
    replace i1 := i1.1
    replace i2 := i2.1
    have i5 : isq (sqK (kndOf s o) (x, y)) ≤ 9290873254707200 := Int.le_trans i3 h1
    have i6 : upq (sqK (kndOf s o) (x, y)) ≤ 9290873254707201 := by omega
    clear i3 i4
    generalize isq (sqK (kndOf s o) (x, y)) = I at *
    generalize upq (sqK (kndOf s o) (x, y)) = U at *
    generalize sqK (kndOf s o) (x, y) = Q at *
    have h2b : (o.kind == 2) = true := by simp [h2]
    clear h2 hS hsq ee hk he hL hp hF h0 h1
    generalize (kndOf s o).wx = wx at *
    generalize (kndOf s o).wy = wy at *
    generalize s.home = home at *
    (unfold Gives; go_enter Tryz.func59, Tryz.ntmps59)
    go_wp2_with fail
    go_at_call 117
    refine forgetK (fun V => Up w V ∧ Box V w.heap.size #[.slice a n c, .int .i64 home, .slice sa sn sc, .slice ca cn cc] 28 ∧ Box V (w.heap.size + 1) (offA o) 32 ∧ Box V (w.heap.size + 1 + 1) #[.int .i64 (x), .int .i64 (y)] 30 ∧ Box V (w.heap.size + 1 + 1 + 1) #[.int .i64 (0), .int .i64 (0)] 38) ⟨(by repeat (first | with_reducible exact Up.refl _ | with_reducible apply Up.plus | apply Up.ext | apply Up.alloc | apply Up.drew | (refine Up.setCell ?_ (by simp; try omega) _))), (by repeat (first | exact Box.mk rfl | (refine Box.mk ?_; simp; done) | apply Box.ext | apply Box.drew | apply Box.alloc | apply Box.two1 | (refine Box.other ?_ (by omega) _ _))), (by repeat (first | exact Box.mk rfl | (refine Box.mk ?_; simp; done) | apply Box.ext | apply Box.drew | apply Box.alloc | apply Box.two1 | (refine Box.other ?_ (by omega) _ _))), (by repeat (first | exact Box.mk rfl | (refine Box.mk ?_; simp; done) | apply Box.ext | apply Box.drew | apply Box.alloc | apply Box.two1 | (refine Box.other ?_ (by omega) _ _))), (by repeat (first | exact Box.mk rfl | (refine Box.mk ?_; simp; done) | apply Box.ext | apply Box.drew | apply Box.alloc | apply Box.two1 | (refine Box.other ?_ (by omega) _ _)))⟩ ?_
    rintro V ⟨hu, b0, b1, b2, b3⟩
    have s0 := b0.cell 0 rfl
    have s1 := b0.cell 1 rfl
    have s2 := b0.cell 2 rfl
    have s3 := b0.cell 3 rfl
    have ls := b0.lt
    have f0 := b1.cell 0 rfl
    have f1 := b1.cell 1 rfl
    have f2 := b1.cell 2 rfl
    have f3 := b1.cell 3 rfl
    have f4 := b1.cell 4 rfl
    have f5 := b1.cell 5 rfl
    have f6 := b1.cell 6 rfl
    have f7 := b1.cell 7 rfl
    have f8 := b1.cell 8 rfl
    have f9 := b1.cell 9 rfl
    have f10 := b1.cell 10 rfl
    have lf := b1.lt
    have g0 := b2.cell 0 rfl
    have g1 := b2.cell 1 rfl
    have lg := b2.lt
    have z0 := b3.cell 0 rfl
    have z1 := b3.cell 1 rfl
    have lz := b3.lt
    have fzz0 := b3.frozen 0
    have fzz1 := b3.frozen 1
    have HB := hide (And.intro hu b3)
    clear hu b0 b1 b2 b3
    refine (HT.out _ HB.out.1).mono ?_
    intro q1
    go_wp2_with (go_at_call 116; (with_reducible refine (HQ.out _).mono ?_); intro _)
    ((first | with_reducible refine wp_region_ext_tail2 1 (by kernel_rfl) (by kernel_rfl) ?_ | refine wp_region_ext_tail 1 (by kernel_rfl) (by kernel_rfl) ?_); simp only [List.length_cons, List.length_nil, Nat.reduceAdd, Nat.reduceSub, List.take_succ_cons, List.take_zero, List.drop_succ_cons, List.drop_zero]; (repeat (go_big_quiet_step ((first | (go_at_call 118; with_reducible exact Gives.inRegion (HU.out _)) | (go_at_call 119; with_reducible exact Gives.inRegion (HR.out _)))))); refine wpQuiet_nil ?_; intro _ hw'; obtain ⟨_, hw''⟩ := hw'; subst hw'')
    go_wp2
    refine forgetW (fun WF => Up w WF ∧ Box WF (w.heap.size + 1 + 1 + 1) #[.int .i64 ((U - o.err)), .int .i64 ((I + o.err))] 38) ⟨(by repeat (first | with_reducible exact HB.out.1 | with_reducible exact Up.refl _ | with_reducible apply Up.ext | with_reducible apply Up.alloc | with_reducible apply Up.drew | (with_reducible refine Up.setCell ?_ (by simp only; omega) _))), ?_⟩ ?_
    · exact (by (repeat (first | with_reducible apply Box.ext | with_reducible apply Box.alloc | with_reducible apply Box.drew)); exact ((HB.out.2.set 0 (.int .i64 (U - o.err))).set 1 (.int .i64 (I + o.err))))
    rintro WF ⟨huF, hbF⟩
    have w0 := hbF.cell 0 rfl
    have w1 := hbF.cell 1 rfl
    (refine bodyPost_give huF rfl ⟨_, (by simp [results, Tryz.results59, go_sem, w0, w1]; rfl), ?_⟩)
    rfl
  · have HS := hide (fun W (hu : Up w W) => vslope_any (hL.up hu) o he h2 hp)
    have hd : 0 < doK (kndOf s o) (x, y) := field_front hF (knd_sc (s := s) h2).1
    have hcr := (cr_bdK hk hp).2.2
    have hmd := mdE_bdd hk hp hd
    have HFL := hide (fun W => vfloor_any (a := 1000000 * crK (kndOf s o) (x, y)) hd (by omega) (by omega) W)
    have HCE := hide (fun W => vceil_any (a := 1000000 * crK (kndOf s o) (x, y)) hd (by omega) (by omega) W)
    have hbi := hk.bias
    have HBI := hide (fun W (hu : Up w W) => vbias_eq (a := a) (n := n) (c := c) (sa := sa) (sn := sn) (sc := sc) (home := s.home) (hL.up hu).ca (bias_knd he h2))
    have e1 : (slopeK (kndOf s o) (x, y)).1 = 1000000 * crK (kndOf s o) (x, y) / doK (kndOf s o) (x, y) := rfl
    have e2 : (slopeK (kndOf s o) (x, y)).2 = -(-(1000000 * crK (kndOf s o) (x, y)) / doK (kndOf s o) (x, y)) := rfl
    rw [← e1] at HFL
    rw [← e2] at HCE
    unfold readsK
    rw [if_pos (knd_sc (s := s) h2).1]
    dsimp only
    rw [ee] at her ⊢
    have h2b : (o.kind == 2) = false := by simp [h2]
    clear e1 e2 hF h2 hsq ee hk he hL hp
    generalize (slopeK (kndOf s o) (x, y)).1 = S1 at *
    generalize (slopeK (kndOf s o) (x, y)).2 = S2 at *
    generalize crK (kndOf s o) (x, y) = C at *
    generalize doK (kndOf s o) (x, y) = D at *
    generalize (kndOf s o).lo = lo at *
    generalize (kndOf s o).hi = hi at *
    generalize s.home = home at *
    (unfold Gives; go_enter Tryz.func59, Tryz.ntmps59)
    go_wp2_with fail
    go_at_call 120
    refine forgetK (fun V => Up w V ∧ Box V w.heap.size #[.slice a n c, .int .i64 home, .slice sa sn sc, .slice ca cn cc] 28 ∧ Box V (w.heap.size + 1) (offA o) 32 ∧ Box V (w.heap.size + 1 + 1) #[.int .i64 (x), .int .i64 (y)] 30 ∧ Box V (w.heap.size + 1 + 1 + 1) #[.int .i64 (0), .int .i64 (0)] 38) ⟨(by repeat (first | with_reducible exact Up.refl _ | with_reducible apply Up.plus | apply Up.ext | apply Up.alloc | apply Up.drew | (refine Up.setCell ?_ (by simp; try omega) _))), (by repeat (first | exact Box.mk rfl | (refine Box.mk ?_; simp; done) | apply Box.ext | apply Box.drew | apply Box.alloc | apply Box.two1 | (refine Box.other ?_ (by omega) _ _))), (by repeat (first | exact Box.mk rfl | (refine Box.mk ?_; simp; done) | apply Box.ext | apply Box.drew | apply Box.alloc | apply Box.two1 | (refine Box.other ?_ (by omega) _ _))), (by repeat (first | exact Box.mk rfl | (refine Box.mk ?_; simp; done) | apply Box.ext | apply Box.drew | apply Box.alloc | apply Box.two1 | (refine Box.other ?_ (by omega) _ _))), (by repeat (first | exact Box.mk rfl | (refine Box.mk ?_; simp; done) | apply Box.ext | apply Box.drew | apply Box.alloc | apply Box.two1 | (refine Box.other ?_ (by omega) _ _)))⟩ ?_
    rintro V ⟨hu, b0, b1, b2, b3⟩
    have s0 := b0.cell 0 rfl
    have s1 := b0.cell 1 rfl
    have s2 := b0.cell 2 rfl
    have s3 := b0.cell 3 rfl
    have ls := b0.lt
    have f0 := b1.cell 0 rfl
    have f1 := b1.cell 1 rfl
    have f2 := b1.cell 2 rfl
    have f3 := b1.cell 3 rfl
    have f4 := b1.cell 4 rfl
    have f5 := b1.cell 5 rfl
    have f6 := b1.cell 6 rfl
    have f7 := b1.cell 7 rfl
    have f8 := b1.cell 8 rfl
    have f9 := b1.cell 9 rfl
    have f10 := b1.cell 10 rfl
    have lf := b1.lt
    have g0 := b2.cell 0 rfl
    have g1 := b2.cell 1 rfl
    have lg := b2.lt
    have z0 := b3.cell 0 rfl
    have z1 := b3.cell 1 rfl
    have lz := b3.lt
    have fzz0 := b3.frozen 0
    have fzz1 := b3.frozen 1
    have HB := hide (And.intro hu b3)
    clear hu b0 b1 b2 b3
    refine (HS.out _ HB.out.1).mono ?_
    intro q1
    go_wp2_with fail
    go_at_call 121
    refine (HBI.out _ (by repeat (first | with_reducible exact HB.out.1 | with_reducible apply Up.ext | with_reducible apply Up.alloc | with_reducible apply Up.drew))).mono ?_
    intro q2
    go_wp2_with fail
    ((first | with_reducible refine wp_region_ext_tail2 1 (by kernel_rfl) (by kernel_rfl) ?_ | refine wp_region_ext_tail 1 (by kernel_rfl) (by kernel_rfl) ?_); simp only [List.length_cons, List.length_nil, Nat.reduceAdd, Nat.reduceSub, List.take_succ_cons, List.take_zero, List.drop_succ_cons, List.drop_zero]; (repeat (go_big_quiet_step ((first | (go_at_call 122; with_reducible exact Gives.inRegion (HCE.out _)) | (go_at_call 123; with_reducible exact Gives.inRegion (HFL.out _)))))); refine wpQuiet_nil ?_; intro _ hw'; obtain ⟨_, hw''⟩ := hw'; subst hw'')
    go_wp2
    refine forgetW (fun WF => Up w WF ∧ Box WF (w.heap.size + 1 + 1 + 1) #[.int .i64 ((S2 - hi - o.err)), .int .i64 ((S1 - lo + o.err))] 38) ⟨(by repeat (first | with_reducible exact HB.out.1 | with_reducible exact Up.refl _ | with_reducible apply Up.ext | with_reducible apply Up.alloc | with_reducible apply Up.drew | (with_reducible refine Up.setCell ?_ (by simp only; omega) _))), ?_⟩ ?_
    · exact (by (repeat (first | with_reducible apply Box.ext | with_reducible apply Box.alloc | with_reducible apply Box.drew)); exact ((HB.out.2.set 0 (.int .i64 (S2 - hi - o.err))).set 1 (.int .i64 (S1 - lo + o.err))))
    rintro WF ⟨huF, hbF⟩
    have w0 := hbF.cell 0 rfl
    have w1 := hbF.cell 1 rfl
    (refine bodyPost_give huF rfl ⟨_, (by simp [results, Tryz.results59, go_sem, w0, w1]; rfl), ?_⟩)
    rfl
end Go.Proofs.YtnaiaodnnmhdkaaGreat
