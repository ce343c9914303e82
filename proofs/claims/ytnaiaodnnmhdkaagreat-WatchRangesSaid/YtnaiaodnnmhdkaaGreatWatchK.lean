/- Several texts in one. -/
import Derived.Test.YtnaiaodnnmhdkaaGreatModk
import Derived.Test.YtnaiaodnnmhdkaaGreatTail
import Derived.Test.YtnaiaodnnmhdkaaGreatWatchC
/- The helpers of the statements of layer 6: a place near another one, an area around it. Conditions: bounded numbers. -/
namespace Go.Proofs.YtnaiaodnnmhdkaaGreat
set_option linter.unusedVariables false
set_option linter.unusedSimpArgs false
open Go.RowKit

theorem xarea6_any (a b c d : Int) (w : World) : Gives Tryz.prog 46 #[.int .i64 a, .int .i64 b, .int .i64 c, .int .i64 d] w (.agg #[.int .i64 (a), .int .i64 (b), .int .i64 (c), .int .i64 (d)]) := by
  (unfold Gives; go_enter Tryz.func46, Tryz.ntmps46)
  go_wp2
  all_goals (refine bodyPost_give (by repeat (first | with_reducible exact Up.refl _ | with_reducible apply Up.plus | apply Up.ext | apply Up.alloc | apply Up.drew | (refine Up.setCell ?_ (by simp; try omega) _))) rfl ⟨_, (by simp [results, Tryz.results46, go_sem]; rfl), ?_⟩)
  all_goals rfl
set_option maxRecDepth 100000 in
set_option maxHeartbeats 1000000 in
theorem near6_any (x y dx dy : Int) (hx : -1000000 ≤ x ∧ x ≤ 1000000) (hy : -1000000 ≤ y ∧ y ≤ 1000000) (bx : -9223372036854775808 ≤ dx ∧ dx ≤ 9223372036854775807) (by0 : -9223372036854775808 ≤ dy ∧ dy ≤ 9223372036854775807) (w : World) :
    Gives Tryz.prog 29 #[.agg #[.int .i64 (x), .int .i64 (y)], .int .i64 dx, .int .i64 dy] w (.agg #[.int .i64 ((x + dx % 601 - 300)), .int .i64 ((y + dy % 601 - 300))]) := by
  have K1 := hide (fun W => mod64_any dx 601 bx.1 bx.2 (by omega) (by omega) W)
  have K2 := hide (fun W => mod64_any dy 601 by0.1 by0.2 (by omega) (by omega) W)
  obtain ⟨m, hm, m0, m1⟩ : ∃ m, dx % 601 = m ∧ 0 ≤ m ∧ m < 601 := ⟨_, rfl, by omega, by omega⟩
  obtain ⟨n, hn, n0, n1⟩ : ∃ m, dy % 601 = m ∧ 0 ≤ m ∧ m < 601 := ⟨_, rfl, by omega, by omega⟩
  rw [hm] at K1 ⊢
  rw [hn] at K2 ⊢
  clear hm hn bx by0
  (unfold Gives; go_enter Tryz.func29, Tryz.ntmps29)
  go_wp2_with fail
  ((first | with_reducible refine wp_region_ext_tail2 1 (by kernel_rfl) (by kernel_rfl) ?_ | refine wp_region_ext_tail 1 (by kernel_rfl) (by kernel_rfl) ?_); simp only [List.length_cons, List.length_nil, Nat.reduceAdd, Nat.reduceSub, List.take_succ_cons, List.take_zero, List.drop_succ_cons, List.drop_zero]; (repeat (go_big_quiet_step ((first | (go_at_call 30; with_reducible exact Gives.inRegion (K1.out _)) | (go_at_call 30; with_reducible exact Gives.inRegion (K2.out _)))))); refine wpQuiet_nil ?_; intro _ hw'; obtain ⟨_, hw''⟩ := hw'; subst hw'')
  go_wp2
  all_goals (refine bodyPost_give (by repeat (first | with_reducible exact Up.refl _ | with_reducible apply Up.plus | apply Up.ext | apply Up.alloc | apply Up.drew | (refine Up.setCell ?_ (by simp; try omega) _))) rfl ⟨_, (by simp [results, Tryz.results29, go_sem]; rfl), ?_⟩)
  all_goals rfl
end Go.Proofs.YtnaiaodnnmhdkaaGreat

/- Package watch: the view of an area, the values of a place. Conditions: what lies in memory. -/
namespace Go.Proofs.YtnaiaodnnmhdkaaGreat
set_option linter.unusedVariables false
set_option linter.unusedSimpArgs false
open Go.RowKit Go.Shelf

set_option maxRecDepth 100000 in
set_option maxHeartbeats 4000000 in
theorem wView_any {K : Nat → Prop} {w : World} {a sa ca : Option Addr} {n c sn sc cn cc : Nat} {s : SkyD} (hL : SkyL K w a n c sa sn sc ca cn cc s) (o : OffD) (x : Ar4) : Gives Tryz.prog 22 #[.agg #[.slice a n c, .int .i64 s.home, .slice sa sn sc, .slice ca cn cc], .agg (offA o), .agg #[.int .i64 (x.1), .int .i64 (x.2.1), .int .i64 (x.2.2.1), .int .i64 (x.2.2.2)]] w (.tuple #[.agg (viewA (viewV s o x).1), .int .i64 (viewV s o x).2]) := by
  have HC := hide (fun W (hu : Up w W) => wcheck_any (hL.up hu).b hL.h (hL.up hu).st (hL.up hu).ca o)
  have HP := hide (fun W => warea_any x W)
  unfold viewV
  by_cases he : offE s o = 0
  rotate_left
  · rw [if_neg he]
    have heb : (offE s o != 0) = true := by simpa using he
    generalize offE s o = e at *
    generalize s.home = home at *
    clear hL he HP
    obtain ⟨x0, x1, y0, y1⟩ := x
    dsimp only
    (unfold Gives; go_enter Tryz.func22, Tryz.ntmps22)
    go_wp2_with fail
    go_at_call 16
    refine forgetK (fun V => Up w V ∧ Box V w.heap.size #[.slice a n c, .int .i64 home, .slice sa sn sc, .slice ca cn cc] 28 ∧ Box V (w.heap.size + 1) (offA o) 32 ∧ Box V (w.heap.size + 1 + 1) #[.int .i64 (x0), .int .i64 (x1), .int .i64 (y0), .int .i64 (y1)] 46 ∧ Box V (w.heap.size + 1 + 1 + 1) #[.bool false, .bool false, .int .i64 0, .int .i64 0] 50) ⟨(by repeat (first | with_reducible exact Up.refl _ | with_reducible apply Up.plus | apply Up.ext | apply Up.alloc | apply Up.drew | (refine Up.setCell ?_ (by simp; try omega) _))), (by repeat (first | exact Box.mk rfl | (refine Box.mk ?_; simp; done) | apply Box.ext | apply Box.drew | apply Box.alloc | apply Box.two1 | (refine Box.other ?_ (by omega) _ _))), (by repeat (first | exact Box.mk rfl | (refine Box.mk ?_; simp; done) | apply Box.ext | apply Box.drew | apply Box.alloc | apply Box.two1 | (refine Box.other ?_ (by omega) _ _))), (by repeat (first | exact Box.mk rfl | (refine Box.mk ?_; simp; done) | apply Box.ext | apply Box.drew | apply Box.alloc | apply Box.two1 | (refine Box.other ?_ (by omega) _ _))), (by repeat (first | exact Box.mk rfl | (refine Box.mk ?_; simp; done) | apply Box.ext | apply Box.drew | apply Box.alloc | apply Box.two1 | (refine Box.other ?_ (by omega) _ _)))⟩ ?_
    rintro V ⟨hu, bs, bo, bp, bz⟩
    have HB := hide (And.intro hu (And.intro bs (And.intro bo (And.intro bp bz))))
    clear hu bs bo bp bz
    refine (HC.out _ HB.out.1).mono ?_
    intro p1
    have s0 := (HB.out.2.1).cell 0 rfl
    have s1 := (HB.out.2.1).cell 1 rfl
    have s2 := (HB.out.2.1).cell 2 rfl
    have s3 := (HB.out.2.1).cell 3 rfl
    have ls := (HB.out.2.1).lt
    have f0 := (HB.out.2.2.1).cell 0 rfl
    have f1 := (HB.out.2.2.1).cell 1 rfl
    have f2 := (HB.out.2.2.1).cell 2 rfl
    have f3 := (HB.out.2.2.1).cell 3 rfl
    have f4 := (HB.out.2.2.1).cell 4 rfl
    have f5 := (HB.out.2.2.1).cell 5 rfl
    have f6 := (HB.out.2.2.1).cell 6 rfl
    have f7 := (HB.out.2.2.1).cell 7 rfl
    have f8 := (HB.out.2.2.1).cell 8 rfl
    have f9 := (HB.out.2.2.1).cell 9 rfl
    have f10 := (HB.out.2.2.1).cell 10 rfl
    have lf := (HB.out.2.2.1).lt
    have g0 := (HB.out.2.2.2.1).cell 0 rfl
    have g1 := (HB.out.2.2.2.1).cell 1 rfl
    have g2 := (HB.out.2.2.2.1).cell 2 rfl
    have g3 := (HB.out.2.2.2.1).cell 3 rfl
    have lg := (HB.out.2.2.2.1).lt
    have z0 := (HB.out.2.2.2.2).cell 0 rfl
    have z1 := (HB.out.2.2.2.2).cell 1 rfl
    have z2 := (HB.out.2.2.2.2).cell 2 rfl
    have z3 := (HB.out.2.2.2.2).cell 3 rfl
    have lz := (HB.out.2.2.2.2).lt
    have fz0 := (HB.out.2.2.2.2).frozen 0
    have fz1 := (HB.out.2.2.2.2).frozen 1
    have fz2 := (HB.out.2.2.2.2).frozen 2
    have fz3 := (HB.out.2.2.2.2).frozen 3
    go_wp2_with fail
    refine forgetW (fun WF => Up w WF ∧ Box WF (w.heap.size + 1 + 1 + 1) #[.bool false, .bool false, .int .i64 0, .int .i64 0] 50) ⟨(by repeat (first | with_reducible exact HB.out.1 | with_reducible exact Up.refl _ | with_reducible apply Up.ext | with_reducible apply Up.alloc | with_reducible apply Up.drew | (with_reducible refine Up.setCell ?_ (by simp only; omega) _))), ?_⟩ ?_
    · exact (by (repeat (first | with_reducible apply Box.ext | with_reducible apply Box.alloc | with_reducible apply Box.drew)); exact ((((HB.out.2.2.2.2.set 0 (.bool false)).set 1 (.bool false)).set 2 (.int .i64 0)).set 3 (.int .i64 0)))
    rintro WF ⟨huF, hbF⟩
    have w0 := hbF.cell 0 rfl
    have w1 := hbF.cell 1 rfl
    have w2 := hbF.cell 2 rfl
    have w3 := hbF.cell 3 rfl
    (refine bodyPost_give huF rfl ⟨_, (by simp [results, Tryz.results22, go_sem, w0, w1, w2, w3]; rfl), ?_⟩)
    rfl
  have HO := hide (fun W (hu : Up w W) => wof_any (hL.up hu).b hL.h (hL.up hu).st (hL.up hu).ca he)
  have hk := kbd_of he
  rw [if_pos he]
  rw [he] at HC
  by_cases hA : areaB x = true
  rotate_left
  · rw [if_neg hA]
    rw [show areaB x = false by simpa using hA] at HP
    generalize s.home = home at *
    clear hL he hk hA HO
    obtain ⟨x0, x1, y0, y1⟩ := x
    dsimp only at *
    (unfold Gives; go_enter Tryz.func22, Tryz.ntmps22)
    go_wp2_with fail
    go_at_call 16
    refine forgetK (fun V => Up w V ∧ Box V w.heap.size #[.slice a n c, .int .i64 home, .slice sa sn sc, .slice ca cn cc] 28 ∧ Box V (w.heap.size + 1) (offA o) 32 ∧ Box V (w.heap.size + 1 + 1) #[.int .i64 (x0), .int .i64 (x1), .int .i64 (y0), .int .i64 (y1)] 46 ∧ Box V (w.heap.size + 1 + 1 + 1) #[.bool false, .bool false, .int .i64 0, .int .i64 0] 50) ⟨(by repeat (first | with_reducible exact Up.refl _ | with_reducible apply Up.plus | apply Up.ext | apply Up.alloc | apply Up.drew | (refine Up.setCell ?_ (by simp; try omega) _))), (by repeat (first | exact Box.mk rfl | (refine Box.mk ?_; simp; done) | apply Box.ext | apply Box.drew | apply Box.alloc | apply Box.two1 | (refine Box.other ?_ (by omega) _ _))), (by repeat (first | exact Box.mk rfl | (refine Box.mk ?_; simp; done) | apply Box.ext | apply Box.drew | apply Box.alloc | apply Box.two1 | (refine Box.other ?_ (by omega) _ _))), (by repeat (first | exact Box.mk rfl | (refine Box.mk ?_; simp; done) | apply Box.ext | apply Box.drew | apply Box.alloc | apply Box.two1 | (refine Box.other ?_ (by omega) _ _))), (by repeat (first | exact Box.mk rfl | (refine Box.mk ?_; simp; done) | apply Box.ext | apply Box.drew | apply Box.alloc | apply Box.two1 | (refine Box.other ?_ (by omega) _ _)))⟩ ?_
    rintro V ⟨hu, bs, bo, bp, bz⟩
    have HB := hide (And.intro hu (And.intro bs (And.intro bo (And.intro bp bz))))
    clear hu bs bo bp bz
    refine (HC.out _ HB.out.1).mono ?_
    intro p1
    have s0 := (HB.out.2.1).cell 0 rfl
    have s1 := (HB.out.2.1).cell 1 rfl
    have s2 := (HB.out.2.1).cell 2 rfl
    have s3 := (HB.out.2.1).cell 3 rfl
    have ls := (HB.out.2.1).lt
    have f0 := (HB.out.2.2.1).cell 0 rfl
    have f1 := (HB.out.2.2.1).cell 1 rfl
    have f2 := (HB.out.2.2.1).cell 2 rfl
    have f3 := (HB.out.2.2.1).cell 3 rfl
    have f4 := (HB.out.2.2.1).cell 4 rfl
    have f5 := (HB.out.2.2.1).cell 5 rfl
    have f6 := (HB.out.2.2.1).cell 6 rfl
    have f7 := (HB.out.2.2.1).cell 7 rfl
    have f8 := (HB.out.2.2.1).cell 8 rfl
    have f9 := (HB.out.2.2.1).cell 9 rfl
    have f10 := (HB.out.2.2.1).cell 10 rfl
    have lf := (HB.out.2.2.1).lt
    have g0 := (HB.out.2.2.2.1).cell 0 rfl
    have g1 := (HB.out.2.2.2.1).cell 1 rfl
    have g2 := (HB.out.2.2.2.1).cell 2 rfl
    have g3 := (HB.out.2.2.2.1).cell 3 rfl
    have lg := (HB.out.2.2.2.1).lt
    have z0 := (HB.out.2.2.2.2).cell 0 rfl
    have z1 := (HB.out.2.2.2.2).cell 1 rfl
    have z2 := (HB.out.2.2.2.2).cell 2 rfl
    have z3 := (HB.out.2.2.2.2).cell 3 rfl
    have lz := (HB.out.2.2.2.2).lt
    have fz0 := (HB.out.2.2.2.2).frozen 0
    have fz1 := (HB.out.2.2.2.2).frozen 1
    have fz2 := (HB.out.2.2.2.2).frozen 2
    have fz3 := (HB.out.2.2.2.2).frozen 3
    go_wp2_with fail
    go_at_call 72
    refine (HP.out _).mono ?_
    intro p2
    go_wp2_with fail
    refine forgetW (fun WF => Up w WF ∧ Box WF (w.heap.size + 1 + 1 + 1) #[.bool false, .bool false, .int .i64 0, .int .i64 0] 50) ⟨(by repeat (first | with_reducible exact HB.out.1 | with_reducible exact Up.refl _ | with_reducible apply Up.ext | with_reducible apply Up.alloc | with_reducible apply Up.drew | (with_reducible refine Up.setCell ?_ (by simp only; omega) _))), ?_⟩ ?_
    · exact (by (repeat (first | with_reducible apply Box.ext | with_reducible apply Box.alloc | with_reducible apply Box.drew)); exact ((((HB.out.2.2.2.2.set 0 (.bool false)).set 1 (.bool false)).set 2 (.int .i64 0)).set 3 (.int .i64 0)))
    rintro WF ⟨huF, hbF⟩
    have w0 := hbF.cell 0 rfl
    have w1 := hbF.cell 1 rfl
    have w2 := hbF.cell 2 rfl
    have w3 := hbF.cell 3 rfl
    (refine bodyPost_give huF rfl ⟨_, (by simp [results, Tryz.results22, go_sem, w0, w1, w2, w3]; rfl), ?_⟩)
    rfl
  · rw [if_pos hA]
    rw [hA] at HP
    have HV := hide (fun W => wview_k hk ((areaB_iff x).1 hA) W)
    generalize viewK (kndOf s o) x = R at *
    generalize kndV (kndOf s o) = KV at *
    generalize s.home = home at *
    clear hL he hk hA
    obtain ⟨x0, x1, y0, y1⟩ := x
    dsimp only at *
    (unfold Gives; go_enter Tryz.func22, Tryz.ntmps22)
    go_wp2_with fail
    go_at_call 16
    refine forgetK (fun V => Up w V ∧ Box V w.heap.size #[.slice a n c, .int .i64 home, .slice sa sn sc, .slice ca cn cc] 28 ∧ Box V (w.heap.size + 1) (offA o) 32 ∧ Box V (w.heap.size + 1 + 1) #[.int .i64 (x0), .int .i64 (x1), .int .i64 (y0), .int .i64 (y1)] 46 ∧ Box V (w.heap.size + 1 + 1 + 1) #[.bool false, .bool false, .int .i64 0, .int .i64 0] 50) ⟨(by repeat (first | with_reducible exact Up.refl _ | with_reducible apply Up.plus | apply Up.ext | apply Up.alloc | apply Up.drew | (refine Up.setCell ?_ (by simp; try omega) _))), (by repeat (first | exact Box.mk rfl | (refine Box.mk ?_; simp; done) | apply Box.ext | apply Box.drew | apply Box.alloc | apply Box.two1 | (refine Box.other ?_ (by omega) _ _))), (by repeat (first | exact Box.mk rfl | (refine Box.mk ?_; simp; done) | apply Box.ext | apply Box.drew | apply Box.alloc | apply Box.two1 | (refine Box.other ?_ (by omega) _ _))), (by repeat (first | exact Box.mk rfl | (refine Box.mk ?_; simp; done) | apply Box.ext | apply Box.drew | apply Box.alloc | apply Box.two1 | (refine Box.other ?_ (by omega) _ _))), (by repeat (first | exact Box.mk rfl | (refine Box.mk ?_; simp; done) | apply Box.ext | apply Box.drew | apply Box.alloc | apply Box.two1 | (refine Box.other ?_ (by omega) _ _)))⟩ ?_
    rintro V ⟨hu, bs, bo, bp, bz⟩
    have HB := hide (And.intro hu (And.intro bs (And.intro bo (And.intro bp bz))))
    clear hu bs bo bp bz
    refine (HC.out _ HB.out.1).mono ?_
    intro p1
    have s0 := (HB.out.2.1).cell 0 rfl
    have s1 := (HB.out.2.1).cell 1 rfl
    have s2 := (HB.out.2.1).cell 2 rfl
    have s3 := (HB.out.2.1).cell 3 rfl
    have ls := (HB.out.2.1).lt
    have f0 := (HB.out.2.2.1).cell 0 rfl
    have f1 := (HB.out.2.2.1).cell 1 rfl
    have f2 := (HB.out.2.2.1).cell 2 rfl
    have f3 := (HB.out.2.2.1).cell 3 rfl
    have f4 := (HB.out.2.2.1).cell 4 rfl
    have f5 := (HB.out.2.2.1).cell 5 rfl
    have f6 := (HB.out.2.2.1).cell 6 rfl
    have f7 := (HB.out.2.2.1).cell 7 rfl
    have f8 := (HB.out.2.2.1).cell 8 rfl
    have f9 := (HB.out.2.2.1).cell 9 rfl
    have f10 := (HB.out.2.2.1).cell 10 rfl
    have lf := (HB.out.2.2.1).lt
    have g0 := (HB.out.2.2.2.1).cell 0 rfl
    have g1 := (HB.out.2.2.2.1).cell 1 rfl
    have g2 := (HB.out.2.2.2.1).cell 2 rfl
    have g3 := (HB.out.2.2.2.1).cell 3 rfl
    have lg := (HB.out.2.2.2.1).lt
    have z0 := (HB.out.2.2.2.2).cell 0 rfl
    have z1 := (HB.out.2.2.2.2).cell 1 rfl
    have z2 := (HB.out.2.2.2.2).cell 2 rfl
    have z3 := (HB.out.2.2.2.2).cell 3 rfl
    have lz := (HB.out.2.2.2.2).lt
    have fz0 := (HB.out.2.2.2.2).frozen 0
    have fz1 := (HB.out.2.2.2.2).frozen 1
    have fz2 := (HB.out.2.2.2.2).frozen 2
    have fz3 := (HB.out.2.2.2.2).frozen 3
    go_wp2_with fail
    go_at_call 72
    refine (HP.out _).mono ?_
    intro p2
    go_wp2_with fail
    refine forgetW (fun V => Up w V ∧ Box V w.heap.size #[.slice a n c, .int .i64 home, .slice sa sn sc, .slice ca cn cc] 28 ∧ Box V (w.heap.size + 1) (offA o) 32 ∧ Box V (w.heap.size + 1 + 1) #[.int .i64 (x0), .int .i64 (x1), .int .i64 (y0), .int .i64 (y1)] 46 ∧ Box V (w.heap.size + 1 + 1 + 1) #[.bool false, .bool false, .int .i64 0, .int .i64 0] 50) ⟨(by repeat (first | with_reducible exact HB.out.1 | with_reducible exact Up.refl _ | with_reducible apply Up.ext | with_reducible apply Up.alloc | with_reducible apply Up.drew | (with_reducible refine Up.setCell ?_ (by simp only; omega) _))), (by repeat (first | with_reducible exact HB.out.2.1 | with_reducible apply Box.ext | with_reducible apply Box.alloc | with_reducible apply Box.drew | (with_reducible refine Box.other ?_ (by omega) _ _))), (by repeat (first | with_reducible exact HB.out.2.2.1 | with_reducible apply Box.ext | with_reducible apply Box.alloc | with_reducible apply Box.drew | (with_reducible refine Box.other ?_ (by omega) _ _))), (by repeat (first | with_reducible exact HB.out.2.2.2.1 | with_reducible apply Box.ext | with_reducible apply Box.alloc | with_reducible apply Box.drew | (with_reducible refine Box.other ?_ (by omega) _ _))), (by repeat (first | with_reducible exact HB.out.2.2.2.2 | with_reducible apply Box.ext | with_reducible apply Box.alloc | with_reducible apply Box.drew | (with_reducible refine Box.other ?_ (by omega) _ _)))⟩ ?_
    clear HB s0 s1 s2 s3 ls f0 f1 f2 f3 f4 f5 f6 f7 f8 f9 f10 lf g0 g1 g2 g3 lg z0 z1 z2 z3 lz fz0 fz1 fz2 fz3
    rintro V ⟨hu, bs, bo, bp, bz⟩
    have HB := hide (And.intro hu (And.intro bs (And.intro bo (And.intro bp bz))))
    clear hu bs bo bp bz
    have s0 := (HB.out.2.1).cell 0 rfl
    have s1 := (HB.out.2.1).cell 1 rfl
    have s2 := (HB.out.2.1).cell 2 rfl
    have s3 := (HB.out.2.1).cell 3 rfl
    have ls := (HB.out.2.1).lt
    have f0 := (HB.out.2.2.1).cell 0 rfl
    have f1 := (HB.out.2.2.1).cell 1 rfl
    have f2 := (HB.out.2.2.1).cell 2 rfl
    have f3 := (HB.out.2.2.1).cell 3 rfl
    have f4 := (HB.out.2.2.1).cell 4 rfl
    have f5 := (HB.out.2.2.1).cell 5 rfl
    have f6 := (HB.out.2.2.1).cell 6 rfl
    have f7 := (HB.out.2.2.1).cell 7 rfl
    have f8 := (HB.out.2.2.1).cell 8 rfl
    have f9 := (HB.out.2.2.1).cell 9 rfl
    have f10 := (HB.out.2.2.1).cell 10 rfl
    have lf := (HB.out.2.2.1).lt
    have g0 := (HB.out.2.2.2.1).cell 0 rfl
    have g1 := (HB.out.2.2.2.1).cell 1 rfl
    have g2 := (HB.out.2.2.2.1).cell 2 rfl
    have g3 := (HB.out.2.2.2.1).cell 3 rfl
    have lg := (HB.out.2.2.2.1).lt
    have z0 := (HB.out.2.2.2.2).cell 0 rfl
    have z1 := (HB.out.2.2.2.2).cell 1 rfl
    have z2 := (HB.out.2.2.2.2).cell 2 rfl
    have z3 := (HB.out.2.2.2.2).cell 3 rfl
    have lz := (HB.out.2.2.2.2).lt
    have fz0 := (HB.out.2.2.2.2).frozen 0
    have fz1 := (HB.out.2.2.2.2).frozen 1
    have fz2 := (HB.out.2.2.2.2).frozen 2
    have fz3 := (HB.out.2.2.2.2).frozen 3
    ((first | with_reducible refine wp_region_ext_tail2 2 (by kernel_rfl) (by kernel_rfl) ?_ | refine wp_region_ext_tail 2 (by kernel_rfl) (by kernel_rfl) ?_); simp only [List.length_cons, List.length_nil, Nat.reduceAdd, Nat.reduceSub, List.take_succ_cons, List.take_zero, List.drop_succ_cons, List.drop_zero]; (repeat (go_big_quiet_step ((first | (go_at_call 58; with_reducible exact Gives.inRegion (HO.out _ (HB.out.1.ext _))) | (go_at_call 73; with_reducible exact Gives.inRegion (HV.out _)))))); refine wpQuiet_nil ?_; intro _ hw'; obtain ⟨_, hw''⟩ := hw'; subst hw'')
    go_wp2_with fail
    refine forgetW (fun WF => Up w WF ∧ Box WF (w.heap.size + 1 + 1 + 1) (viewA R) 50) ⟨(by repeat (first | with_reducible exact HB.out.1 | with_reducible exact Up.refl _ | with_reducible apply Up.ext | with_reducible apply Up.alloc | with_reducible apply Up.drew | (with_reducible refine Up.setCell ?_ (by simp only; omega) _))), ?_⟩ ?_
    · exact (by (repeat (first | with_reducible apply Box.ext | with_reducible apply Box.alloc | with_reducible apply Box.drew)); exact ((((HB.out.2.2.2.2.set 0 (.bool R.1)).set 1 (.bool R.2.1)).set 2 (.int .i64 R.2.2.1)).set 3 (.int .i64 R.2.2.2)))
    rintro WF ⟨huF, hbF⟩
    have w0 := hbF.cell 0 rfl
    have w1 := hbF.cell 1 rfl
    have w2 := hbF.cell 2 rfl
    have w3 := hbF.cell 3 rfl
    (refine bodyPost_give huF rfl ⟨_, (by simp [results, Tryz.results22, go_sem, w0, w1, w2, w3]; rfl), ?_⟩)
    rfl
end Go.Proofs.YtnaiaodnnmhdkaaGreat

