/- Reference bolideref06: View, Apart. Conditions: what lies in memory. -/
import Derived.Test.YtnaiaodnnmhdkaaGreatVN
import Derived.Test.YtnaiaodnnmhdkaaGreatVL
namespace Go.Proofs.YtnaiaodnnmhdkaaGreat
set_option linter.unusedVariables false
set_option linter.unusedSimpArgs false
open Go.RowKit Go.Shelf

set_option maxRecDepth 100000 in
set_option maxHeartbeats 4000000 in
theorem vView_any {K : Nat → Prop} {w : World} {a sa ca : Option Addr} {n c sn sc cn cc : Nat} {s : SkyD} (hL : SkyL K w a n c sa sn sc ca cn cc s) (o : OffD) (x : Ar4) : Gives Tryz.prog 23 #[.agg #[.slice a n c, .int .i64 s.home, .slice sa sn sc, .slice ca cn cc], .agg (offA o), .agg #[.int .i64 (x.1), .int .i64 (x.2.1), .int .i64 (x.2.2.1), .int .i64 (x.2.2.2)]] w (.tuple #[.agg (viewA (viewV s o x).1), .int .i64 (viewV s o x).2]) := by
  have HC := hide (fun W (hu : Up w W) => vCheck_any (hL.up hu) o)
  have HP := hide (fun W => vcheckarea_any x W)
  unfold viewV
  obtain ⟨x0, x1, y0, y1⟩ := x
  dsimp only at *
  by_cases he : offE s o = 0
  rotate_left
  · rw [if_neg he]
    have heb : (offE s o != 0) = true := by simpa using he
    generalize offE s o = e at *
    generalize s.home = home at *
    clear hL he HP
    dsimp only
    (unfold Gives; go_enter Tryz.func23, Tryz.ntmps23)
    go_wp2_with fail
    go_at_call 17
    refine forgetK (fun wr => Up w wr ∧ Box wr w.heap.size #[.slice a n c, .int .i64 home, .slice sa sn sc, .slice ca cn cc] 28 ∧ Box wr (w.heap.size + 1) (offA o) 32 ∧ Box wr (w.heap.size + 1 + 1) #[.int .i64 (x0), .int .i64 (x1), .int .i64 (y0), .int .i64 (y1)] 46 ∧ Box wr (w.heap.size + 1 + 1 + 1) #[.bool false, .bool false, .int .i64 0, .int .i64 0] 50) ⟨(by repeat (first | with_reducible exact Up.refl _ | with_reducible apply Up.plus | apply Up.ext | apply Up.alloc | apply Up.drew | (refine Up.setCell ?_ (by simp; try omega) _))), (by repeat (first | exact Box.mk rfl | (refine Box.mk ?_; simp; done) | apply Box.ext | apply Box.drew | apply Box.alloc | apply Box.two1 | (refine Box.other ?_ (by omega) _ _))), (by repeat (first | exact Box.mk rfl | (refine Box.mk ?_; simp; done) | apply Box.ext | apply Box.drew | apply Box.alloc | apply Box.two1 | (refine Box.other ?_ (by omega) _ _))), (by repeat (first | exact Box.mk rfl | (refine Box.mk ?_; simp; done) | apply Box.ext | apply Box.drew | apply Box.alloc | apply Box.two1 | (refine Box.other ?_ (by omega) _ _))), (by repeat (first | exact Box.mk rfl | (refine Box.mk ?_; simp; done) | apply Box.ext | apply Box.drew | apply Box.alloc | apply Box.two1 | (refine Box.other ?_ (by omega) _ _)))⟩ ?_
    rintro V0 ⟨hu, b0, b1, b2, b3⟩
    have HB0 := hide (And.intro hu (And.intro b0 (And.intro b1 (And.intro b2 b3))))
    clear hu b0 b1 b2 b3
    have s0 := (HB0.out.2.1).cell 0 rfl
    have s1 := (HB0.out.2.1).cell 1 rfl
    have s2 := (HB0.out.2.1).cell 2 rfl
    have s3 := (HB0.out.2.1).cell 3 rfl
    have ls := (HB0.out.2.1).lt
    have f0 := (HB0.out.2.2.1).cell 0 rfl
    have f1 := (HB0.out.2.2.1).cell 1 rfl
    have f2 := (HB0.out.2.2.1).cell 2 rfl
    have f3 := (HB0.out.2.2.1).cell 3 rfl
    have f4 := (HB0.out.2.2.1).cell 4 rfl
    have f5 := (HB0.out.2.2.1).cell 5 rfl
    have f6 := (HB0.out.2.2.1).cell 6 rfl
    have f7 := (HB0.out.2.2.1).cell 7 rfl
    have f8 := (HB0.out.2.2.1).cell 8 rfl
    have f9 := (HB0.out.2.2.1).cell 9 rfl
    have f10 := (HB0.out.2.2.1).cell 10 rfl
    have lf := (HB0.out.2.2.1).lt
    have g0 := (HB0.out.2.2.2.1).cell 0 rfl
    have g1 := (HB0.out.2.2.2.1).cell 1 rfl
    have g2 := (HB0.out.2.2.2.1).cell 2 rfl
    have g3 := (HB0.out.2.2.2.1).cell 3 rfl
    have lg := (HB0.out.2.2.2.1).lt
    have z0 := (HB0.out.2.2.2.2).cell 0 rfl
    have z1 := (HB0.out.2.2.2.2).cell 1 rfl
    have z2 := (HB0.out.2.2.2.2).cell 2 rfl
    have z3 := (HB0.out.2.2.2.2).cell 3 rfl
    have lz := (HB0.out.2.2.2.2).lt
    have fzz0 := (HB0.out.2.2.2.2).frozen 0
    have fzz1 := (HB0.out.2.2.2.2).frozen 1
    have fzz2 := (HB0.out.2.2.2.2).frozen 2
    have fzz3 := (HB0.out.2.2.2.2).frozen 3
    refine (HC.out _ (by repeat (first | with_reducible exact HB0.out.1 | with_reducible exact Up.refl _ | with_reducible apply Up.ext | with_reducible apply Up.alloc | with_reducible apply Up.drew | (with_reducible refine Up.setCell ?_ (by simp only; omega) _)))).mono ?_
    intro p1
    go_wp2_with fail
    refine forgetW (fun WF => Up w WF ∧ Box WF (w.heap.size + 1 + 1 + 1) #[.bool false, .bool false, .int .i64 0, .int .i64 0] 50) ⟨(by repeat (first | with_reducible exact HB0.out.1 | with_reducible exact Up.refl _ | with_reducible apply Up.ext | with_reducible apply Up.alloc | with_reducible apply Up.drew | (with_reducible refine Up.setCell ?_ (by simp only; omega) _))), (by (repeat (first | with_reducible apply Box.ext | with_reducible apply Box.alloc | with_reducible apply Box.drew)); exact ((((HB0.out.2.2.2.2).set 0 (.bool false)).set 1 (.bool false)).set 2 (.int .i64 0)).set 3 (.int .i64 0))⟩ ?_
    rintro WF ⟨huF, hbF⟩
    have w0 := hbF.cell 0 rfl
    have w1 := hbF.cell 1 rfl
    have w2 := hbF.cell 2 rfl
    have w3 := hbF.cell 3 rfl
    (refine bodyPost_give huF rfl ⟨_, (by simp [results, Tryz.results23, go_sem, w0, w1, w2, w3]; rfl), ?_⟩)
    rfl
  rw [if_pos he]
  rw [he] at HC
  by_cases hA : areaB (x0, x1, y0, y1) = true
  rotate_left
  · rw [if_neg hA]
    rw [show areaB (x0, x1, y0, y1) = false by simpa using hA] at HP
    generalize s.home = home at *
    clear hL he hA
    dsimp only
    (unfold Gives; go_enter Tryz.func23, Tryz.ntmps23)
    go_wp2_with fail
    go_at_call 17
    refine forgetK (fun wr => Up w wr ∧ Box wr w.heap.size #[.slice a n c, .int .i64 home, .slice sa sn sc, .slice ca cn cc] 28 ∧ Box wr (w.heap.size + 1) (offA o) 32 ∧ Box wr (w.heap.size + 1 + 1) #[.int .i64 (x0), .int .i64 (x1), .int .i64 (y0), .int .i64 (y1)] 46 ∧ Box wr (w.heap.size + 1 + 1 + 1) #[.bool false, .bool false, .int .i64 0, .int .i64 0] 50) ⟨(by repeat (first | with_reducible exact Up.refl _ | with_reducible apply Up.plus | apply Up.ext | apply Up.alloc | apply Up.drew | (refine Up.setCell ?_ (by simp; try omega) _))), (by repeat (first | exact Box.mk rfl | (refine Box.mk ?_; simp; done) | apply Box.ext | apply Box.drew | apply Box.alloc | apply Box.two1 | (refine Box.other ?_ (by omega) _ _))), (by repeat (first | exact Box.mk rfl | (refine Box.mk ?_; simp; done) | apply Box.ext | apply Box.drew | apply Box.alloc | apply Box.two1 | (refine Box.other ?_ (by omega) _ _))), (by repeat (first | exact Box.mk rfl | (refine Box.mk ?_; simp; done) | apply Box.ext | apply Box.drew | apply Box.alloc | apply Box.two1 | (refine Box.other ?_ (by omega) _ _))), (by repeat (first | exact Box.mk rfl | (refine Box.mk ?_; simp; done) | apply Box.ext | apply Box.drew | apply Box.alloc | apply Box.two1 | (refine Box.other ?_ (by omega) _ _)))⟩ ?_
    rintro V0 ⟨hu, b0, b1, b2, b3⟩
    have HB0 := hide (And.intro hu (And.intro b0 (And.intro b1 (And.intro b2 b3))))
    clear hu b0 b1 b2 b3
    have s0 := (HB0.out.2.1).cell 0 rfl
    have s1 := (HB0.out.2.1).cell 1 rfl
    have s2 := (HB0.out.2.1).cell 2 rfl
    have s3 := (HB0.out.2.1).cell 3 rfl
    have ls := (HB0.out.2.1).lt
    have f0 := (HB0.out.2.2.1).cell 0 rfl
    have f1 := (HB0.out.2.2.1).cell 1 rfl
    have f2 := (HB0.out.2.2.1).cell 2 rfl
    have f3 := (HB0.out.2.2.1).cell 3 rfl
    have f4 := (HB0.out.2.2.1).cell 4 rfl
    have f5 := (HB0.out.2.2.1).cell 5 rfl
    have f6 := (HB0.out.2.2.1).cell 6 rfl
    have f7 := (HB0.out.2.2.1).cell 7 rfl
    have f8 := (HB0.out.2.2.1).cell 8 rfl
    have f9 := (HB0.out.2.2.1).cell 9 rfl
    have f10 := (HB0.out.2.2.1).cell 10 rfl
    have lf := (HB0.out.2.2.1).lt
    have g0 := (HB0.out.2.2.2.1).cell 0 rfl
    have g1 := (HB0.out.2.2.2.1).cell 1 rfl
    have g2 := (HB0.out.2.2.2.1).cell 2 rfl
    have g3 := (HB0.out.2.2.2.1).cell 3 rfl
    have lg := (HB0.out.2.2.2.1).lt
    have z0 := (HB0.out.2.2.2.2).cell 0 rfl
    have z1 := (HB0.out.2.2.2.2).cell 1 rfl
    have z2 := (HB0.out.2.2.2.2).cell 2 rfl
    have z3 := (HB0.out.2.2.2.2).cell 3 rfl
    have lz := (HB0.out.2.2.2.2).lt
    have fzz0 := (HB0.out.2.2.2.2).frozen 0
    have fzz1 := (HB0.out.2.2.2.2).frozen 1
    have fzz2 := (HB0.out.2.2.2.2).frozen 2
    have fzz3 := (HB0.out.2.2.2.2).frozen 3
    refine (HC.out _ (by repeat (first | with_reducible exact HB0.out.1 | with_reducible exact Up.refl _ | with_reducible apply Up.ext | with_reducible apply Up.alloc | with_reducible apply Up.drew | (with_reducible refine Up.setCell ?_ (by simp only; omega) _)))).mono ?_
    intro p1
    go_wp2_with fail
    go_at_call 74
    refine (HP.out _).mono ?_
    intro p2
    go_wp2_with fail
    refine forgetW (fun WF => Up w WF ∧ Box WF (w.heap.size + 1 + 1 + 1) #[.bool false, .bool false, .int .i64 0, .int .i64 0] 50) ⟨(by repeat (first | with_reducible exact HB0.out.1 | with_reducible exact Up.refl _ | with_reducible apply Up.ext | with_reducible apply Up.alloc | with_reducible apply Up.drew | (with_reducible refine Up.setCell ?_ (by simp only; omega) _))), (by (repeat (first | with_reducible apply Box.ext | with_reducible apply Box.alloc | with_reducible apply Box.drew)); exact ((((HB0.out.2.2.2.2).set 0 (.bool false)).set 1 (.bool false)).set 2 (.int .i64 0)).set 3 (.int .i64 0))⟩ ?_
    rintro WF ⟨huF, hbF⟩
    have w0 := hbF.cell 0 rfl
    have w1 := hbF.cell 1 rfl
    have w2 := hbF.cell 2 rfl
    have w3 := hbF.cell 3 rfl
    (refine bodyPost_give huF rfl ⟨_, (by simp [results, Tryz.results23, go_sem, w0, w1, w2, w3]; rfl), ?_⟩)
    rfl
  rw [if_pos hA]
  rw [hA] at HP
  have ha := (areaB_iff _).1 hA
  have HV := hide (fun W (hu : Up w W) => vview0_any (hL.up hu) o he ha)
  generalize viewK (kndOf s o) (x0, x1, y0, y1) = R at *
  generalize s.home = home at *
  clear hL he hA ha
  obtain ⟨R1, R2, R3, R4⟩ := R
  unfold viewA at *
  dsimp only at *
  (unfold Gives; go_enter Tryz.func23, Tryz.ntmps23)
  go_wp2_with fail
  go_at_call 17
  refine forgetK (fun wr => Up w wr ∧ Box wr w.heap.size #[.slice a n c, .int .i64 home, .slice sa sn sc, .slice ca cn cc] 28 ∧ Box wr (w.heap.size + 1) (offA o) 32 ∧ Box wr (w.heap.size + 1 + 1) #[.int .i64 (x0), .int .i64 (x1), .int .i64 (y0), .int .i64 (y1)] 46 ∧ Box wr (w.heap.size + 1 + 1 + 1) #[.bool false, .bool false, .int .i64 0, .int .i64 0] 50) ⟨(by repeat (first | with_reducible exact Up.refl _ | with_reducible apply Up.plus | apply Up.ext | apply Up.alloc | apply Up.drew | (refine Up.setCell ?_ (by simp; try omega) _))), (by repeat (first | exact Box.mk rfl | (refine Box.mk ?_; simp; done) | apply Box.ext | apply Box.drew | apply Box.alloc | apply Box.two1 | (refine Box.other ?_ (by omega) _ _))), (by repeat (first | exact Box.mk rfl | (refine Box.mk ?_; simp; done) | apply Box.ext | apply Box.drew | apply Box.alloc | apply Box.two1 | (refine Box.other ?_ (by omega) _ _))), (by repeat (first | exact Box.mk rfl | (refine Box.mk ?_; simp; done) | apply Box.ext | apply Box.drew | apply Box.alloc | apply Box.two1 | (refine Box.other ?_ (by omega) _ _))), (by repeat (first | exact Box.mk rfl | (refine Box.mk ?_; simp; done) | apply Box.ext | apply Box.drew | apply Box.alloc | apply Box.two1 | (refine Box.other ?_ (by omega) _ _)))⟩ ?_
  rintro V0 ⟨hu, b0, b1, b2, b3⟩
  have HB0 := hide (And.intro hu (And.intro b0 (And.intro b1 (And.intro b2 b3))))
  clear hu b0 b1 b2 b3
  have s0 := (HB0.out.2.1).cell 0 rfl
  have s1 := (HB0.out.2.1).cell 1 rfl
  have s2 := (HB0.out.2.1).cell 2 rfl
  have s3 := (HB0.out.2.1).cell 3 rfl
  have ls := (HB0.out.2.1).lt
  have f0 := (HB0.out.2.2.1).cell 0 rfl
  have f1 := (HB0.out.2.2.1).cell 1 rfl
  have f2 := (HB0.out.2.2.1).cell 2 rfl
  have f3 := (HB0.out.2.2.1).cell 3 rfl
  have f4 := (HB0.out.2.2.1).cell 4 rfl
  have f5 := (HB0.out.2.2.1).cell 5 rfl
  have f6 := (HB0.out.2.2.1).cell 6 rfl
  have f7 := (HB0.out.2.2.1).cell 7 rfl
  have f8 := (HB0.out.2.2.1).cell 8 rfl
  have f9 := (HB0.out.2.2.1).cell 9 rfl
  have f10 := (HB0.out.2.2.1).cell 10 rfl
  have lf := (HB0.out.2.2.1).lt
  have g0 := (HB0.out.2.2.2.1).cell 0 rfl
  have g1 := (HB0.out.2.2.2.1).cell 1 rfl
  have g2 := (HB0.out.2.2.2.1).cell 2 rfl
  have g3 := (HB0.out.2.2.2.1).cell 3 rfl
  have lg := (HB0.out.2.2.2.1).lt
  have z0 := (HB0.out.2.2.2.2).cell 0 rfl
  have z1 := (HB0.out.2.2.2.2).cell 1 rfl
  have z2 := (HB0.out.2.2.2.2).cell 2 rfl
  have z3 := (HB0.out.2.2.2.2).cell 3 rfl
  have lz := (HB0.out.2.2.2.2).lt
  have fzz0 := (HB0.out.2.2.2.2).frozen 0
  have fzz1 := (HB0.out.2.2.2.2).frozen 1
  have fzz2 := (HB0.out.2.2.2.2).frozen 2
  have fzz3 := (HB0.out.2.2.2.2).frozen 3
  refine (HC.out _ (by repeat (first | with_reducible exact HB0.out.1 | with_reducible exact Up.refl _ | with_reducible apply Up.ext | with_reducible apply Up.alloc | with_reducible apply Up.drew | (with_reducible refine Up.setCell ?_ (by simp only; omega) _)))).mono ?_
  intro p1
  go_wp2_with fail
  go_at_call 74
  refine (HP.out _).mono ?_
  intro p2
  go_wp2_with fail
  go_at_call 75
  refine (HV.out _ (by repeat (first | with_reducible exact HB0.out.1 | with_reducible exact Up.refl _ | with_reducible apply Up.ext | with_reducible apply Up.alloc | with_reducible apply Up.drew | (with_reducible refine Up.setCell ?_ (by simp only; omega) _)))).mono ?_
  intro p3
  go_wp2_with fail
  refine forgetW (fun WF => Up w WF ∧ Box WF (w.heap.size + 1 + 1 + 1) #[.bool R1, .bool R2, .int .i64 R3, .int .i64 R4] 50) ⟨(by repeat (first | with_reducible exact HB0.out.1 | with_reducible exact Up.refl _ | with_reducible apply Up.ext | with_reducible apply Up.alloc | with_reducible apply Up.drew | (with_reducible refine Up.setCell ?_ (by simp only; omega) _))), (by (repeat (first | with_reducible apply Box.ext | with_reducible apply Box.alloc | with_reducible apply Box.drew)); exact ((((HB0.out.2.2.2.2).set 0 (.bool R1)).set 1 (.bool R2)).set 2 (.int .i64 R3)).set 3 (.int .i64 R4))⟩ ?_
  rintro WF ⟨huF, hbF⟩
  have w0 := hbF.cell 0 rfl
  have w1 := hbF.cell 1 rfl
  have w2 := hbF.cell 2 rfl
  have w3 := hbF.cell 3 rfl
  (refine bodyPost_give huF rfl ⟨_, (by simp [results, Tryz.results23, go_sem, w0, w1, w2, w3]; rfl), ?_⟩)
  rfl
/-- valid views: the program's test is the reference's -/
theorem view_ok {s : SkyD} {o : OffD} {x : Ar4} (h : (viewV s o x).2 = 0) : checkE (viewV s o x).1.2.2.1 (viewV s o x).1.2.2.2 = 0 := by
  unfold viewV at h ⊢
  by_cases he : offE s o = 0
  · rw [if_pos he] at h ⊢
    by_cases ha : areaB x = true
    · rw [if_pos ha] at h ⊢
      unfold viewK
      dsimp only
      by_cases hm : mayK (kndOf s o) x = true
      · rw [if_pos hm]
        have h1 := clamp_bd (valuesK (kndOf s o) x).1
        have h2 := clamp_bd (valuesK (kndOf s o) x).2
        have h3 := clamp_mono (vals_ord (kbd_of he) ((areaB_iff _).1 ha))
        exact check_ok (by omega) h3 (by omega)
      · rw [if_neg hm]; decide
    · rw [if_neg ha] at h; cases h
  · rw [if_neg he] at h; exact absurd h he
theorem mixed_eq {x y : Bool × Bool × Int × Int} (hx : checkE x.2.2.1 x.2.2.2 = 0) (hy : checkE y.2.2.1 y.2.2.2 = 0) : mixedB x y = mix2 x y := by
  have h1 := (check_zero hx).2.1
  have h2 := (check_zero hy).2.1
  have h3 := meet_iff x.2.2.1 x.2.2.2 y.2.2.1 y.2.2.2
  have e : (meetS x.2.2.1 x.2.2.2 y.2.2.1 y.2.2.2).2.2 = (decide (x.2.2.1 ≤ y.2.2.2) && decide (y.2.2.1 ≤ x.2.2.2)) := by
    rw [Bool.eq_iff_iff, h3]
    simp only [Bool.and_eq_true, decide_eq_true_eq]
    constructor
    · intro h; omega
    · intro h; exact ⟨hx, hy, by omega⟩
  unfold mixedB mix2
  rw [e]
set_option maxRecDepth 100000 in
set_option maxHeartbeats 4000000 in
theorem vApart_any {K : Nat → Prop} {w : World} {a sa ca : Option Addr} {n c sn sc cn cc : Nat} {s : SkyD} (hL : SkyL K w a n c sa sn sc ca cn cc s) (o : OffD) (x y : Ar4) : Gives Tryz.prog 25 #[.agg #[.slice a n c, .int .i64 s.home, .slice sa sn sc, .slice ca cn cc], .agg (offA o), .agg #[.int .i64 (x.1), .int .i64 (x.2.1), .int .i64 (x.2.2.1), .int .i64 (x.2.2.2)], .agg #[.int .i64 (y.1), .int .i64 (y.2.1), .int .i64 (y.2.2.1), .int .i64 (y.2.2.2)]] w (.bool (apartV s o x y)) := by
  have H1 := hide (fun W (hu : Up w W) => vView_any (hL.up hu) o x)
  have H2 := hide (fun W (hu : Up w W) => vView_any (hL.up hu) o y)
  have HM := hide (fun (h1 : (viewV s o x).2 = 0) (h2 : (viewV s o y).2 = 0) W => (by rw [mixed_eq (view_ok h1) (view_ok h2)]; exact vmixed_any (viewV s o x).1 (viewV s o y).1 W : Gives Tryz.prog 77 #[.agg (viewA (viewV s o x).1), .agg (viewA (viewV s o y).1)] W (.bool (mixedB (viewV s o x).1 (viewV s o y).1))))
  unfold apartV
  generalize viewV s o x = A at *
  generalize viewV s o y = B at *
  obtain ⟨⟨A1, A2, A3, A4⟩, e⟩ := A
  obtain ⟨⟨B1, B2, B3, B4⟩, f⟩ := B
  dsimp only at *
  generalize mixedB (A1, A2, A3, A4) (B1, B2, B3, B4) = M at *
  generalize s.home = home at *
  clear hL
  obtain ⟨x0, x1, x2, x3⟩ := x
  obtain ⟨y0, y1, y2, y3⟩ := y
  unfold viewA at *
  dsimp only at *
  by_cases he : e = 0
  rotate_left
  · have heb : (e == 0) = false := by simpa using he
    rw [decide_eq_false he, Bool.false_and]
    replace he := hide he
    (unfold Gives; go_enter Tryz.func25, Tryz.ntmps25)
    go_wp2_with fail
    go_at_call 23
    refine forgetK (fun V => Up w V ∧ Box V w.heap.size #[.slice a n c, .int .i64 home, .slice sa sn sc, .slice ca cn cc] 28 ∧ Box V (w.heap.size + 1) (offA o) 32 ∧ Box V (w.heap.size + 1 + 1) #[.int .i64 (x0), .int .i64 (x1), .int .i64 (x2), .int .i64 (x3)] 46 ∧ Box V (w.heap.size + 1 + 1 + 1) #[.int .i64 (y0), .int .i64 (y1), .int .i64 (y2), .int .i64 (y3)] 46 ∧ True) ⟨(by repeat (first | with_reducible exact Up.refl _ | with_reducible apply Up.plus | apply Up.ext | apply Up.alloc | apply Up.drew | (refine Up.setCell ?_ (by simp; try omega) _))), (by repeat (first | exact Box.mk rfl | (refine Box.mk ?_; simp; done) | apply Box.ext | apply Box.drew | apply Box.alloc | apply Box.two1 | (refine Box.other ?_ (by omega) _ _))), (by repeat (first | exact Box.mk rfl | (refine Box.mk ?_; simp; done) | apply Box.ext | apply Box.drew | apply Box.alloc | apply Box.two1 | (refine Box.other ?_ (by omega) _ _))), (by repeat (first | exact Box.mk rfl | (refine Box.mk ?_; simp; done) | apply Box.ext | apply Box.drew | apply Box.alloc | apply Box.two1 | (refine Box.other ?_ (by omega) _ _))), (by repeat (first | exact Box.mk rfl | (refine Box.mk ?_; simp; done) | apply Box.ext | apply Box.drew | apply Box.alloc | apply Box.two1 | (refine Box.other ?_ (by omega) _ _))), trivial⟩ ?_
    rintro V1 ⟨hu, bs, bo, bx, bb, _⟩
    have HB := hide (And.intro hu (And.intro bs (And.intro bo (And.intro bx (And.intro bb trivial)))))
    clear hu bs bo bx bb
    refine (H1.out _ HB.out.1).mono ?_
    intro p1
    have s0 := HB.out.2.1.cell 0 rfl
    have s1 := HB.out.2.1.cell 1 rfl
    have s2 := HB.out.2.1.cell 2 rfl
    have s3 := HB.out.2.1.cell 3 rfl
    have ls := HB.out.2.1.lt
    have f0 := HB.out.2.2.1.cell 0 rfl
    have f1 := HB.out.2.2.1.cell 1 rfl
    have f2 := HB.out.2.2.1.cell 2 rfl
    have f3 := HB.out.2.2.1.cell 3 rfl
    have f4 := HB.out.2.2.1.cell 4 rfl
    have f5 := HB.out.2.2.1.cell 5 rfl
    have f6 := HB.out.2.2.1.cell 6 rfl
    have f7 := HB.out.2.2.1.cell 7 rfl
    have f8 := HB.out.2.2.1.cell 8 rfl
    have f9 := HB.out.2.2.1.cell 9 rfl
    have f10 := HB.out.2.2.1.cell 10 rfl
    have lf := HB.out.2.2.1.lt
    have g0 := HB.out.2.2.2.1.cell 0 rfl
    have g1 := HB.out.2.2.2.1.cell 1 rfl
    have g2 := HB.out.2.2.2.1.cell 2 rfl
    have g3 := HB.out.2.2.2.1.cell 3 rfl
    have lg := HB.out.2.2.2.1.lt
    have k0 := HB.out.2.2.2.2.1.cell 0 rfl
    have k1 := HB.out.2.2.2.2.1.cell 1 rfl
    have k2 := HB.out.2.2.2.2.1.cell 2 rfl
    have k3 := HB.out.2.2.2.2.1.cell 3 rfl
    have lk := HB.out.2.2.2.2.1.lt
    obtain ⟨Q9, hQ9⟩ : ∃ T, V1.heap.size + p1.os.size = T := ⟨_, rfl⟩
    go_wp2_with fail
    go_at_call 23
    try rw [hQ9]
    refine forgetK (fun V => Up w V ∧ Box V w.heap.size #[.slice a n c, .int .i64 home, .slice sa sn sc, .slice ca cn cc] 28 ∧ Box V (w.heap.size + 1) (offA o) 32 ∧ Box V (w.heap.size + 1 + 1) #[.int .i64 (x0), .int .i64 (x1), .int .i64 (x2), .int .i64 (x3)] 46 ∧ Box V (w.heap.size + 1 + 1 + 1) #[.int .i64 (y0), .int .i64 (y1), .int .i64 (y2), .int .i64 (y3)] 46 ∧ Box V Q9 #[.bool A1, .bool A2, .int .i64 A3, .int .i64 A4] 50) ⟨(by repeat (first | with_reducible exact HB.out.1 | with_reducible exact Up.refl _ | with_reducible apply Up.ext | with_reducible apply Up.alloc | with_reducible apply Up.drew | (with_reducible refine Up.setCell ?_ (by simp only; omega) _))), (by repeat (first | with_reducible exact HB.out.2.1 | with_reducible apply Box.ext | with_reducible apply Box.alloc | with_reducible apply Box.drew | (with_reducible refine Box.other ?_ (by omega) _ _))), (by repeat (first | with_reducible exact HB.out.2.2.1 | with_reducible apply Box.ext | with_reducible apply Box.alloc | with_reducible apply Box.drew | (with_reducible refine Box.other ?_ (by omega) _ _))), (by repeat (first | with_reducible exact HB.out.2.2.2.1 | with_reducible apply Box.ext | with_reducible apply Box.alloc | with_reducible apply Box.drew | (with_reducible refine Box.other ?_ (by omega) _ _))), (by repeat (first | with_reducible exact HB.out.2.2.2.2.1 | with_reducible apply Box.ext | with_reducible apply Box.alloc | with_reducible apply Box.drew | (with_reducible refine Box.other ?_ (by omega) _ _))), by rw [← hQ9]; exact (by repeat (first | exact Box.mk rfl | (refine Box.mk ?_; simp; done) | apply Box.ext | apply Box.drew | apply Box.alloc | apply Box.two1 | (refine Box.other ?_ (by omega) _ _)))⟩ ?_
    clear HB hQ9 s0 s1 s2 s3 ls f0 f1 f2 f3 f4 f5 f6 f7 f8 f9 f10 lf g0 g1 g2 g3 lg k0 k1 k2 k3 lk
    rintro V2 ⟨hu, bs, bo, bx, bb, b9⟩
    have HB := hide (And.intro hu b9)
    clear bs bo bx bb
    refine (H2.out _ hu).mono ?_
    intro p2
    have m0 := b9.cell 0 rfl
    have m1 := b9.cell 1 rfl
    have m2 := b9.cell 2 rfl
    have m3 := b9.cell 3 rfl
    have lm := b9.lt
    clear hu b9
    go_wp2
    go_ret
    exact ⟨rfl, (by repeat (first | with_reducible exact HB.out.1 | with_reducible exact Up.refl _ | apply Up.ext | apply Up.alloc | apply Up.drew | (refine Up.setCell ?_ (by simp [World.setCell]; try omega) _)))⟩
  subst he
  by_cases hf : f = 0
  rotate_left
  · have hfb : (f == 0) = false := by simpa using hf
    rw [decide_eq_true rfl, Bool.true_and, decide_eq_false hf, Bool.false_and]
    replace hf := hide hf
    (unfold Gives; go_enter Tryz.func25, Tryz.ntmps25)
    go_wp2_with fail
    go_at_call 23
    refine forgetK (fun V => Up w V ∧ Box V w.heap.size #[.slice a n c, .int .i64 home, .slice sa sn sc, .slice ca cn cc] 28 ∧ Box V (w.heap.size + 1) (offA o) 32 ∧ Box V (w.heap.size + 1 + 1) #[.int .i64 (x0), .int .i64 (x1), .int .i64 (x2), .int .i64 (x3)] 46 ∧ Box V (w.heap.size + 1 + 1 + 1) #[.int .i64 (y0), .int .i64 (y1), .int .i64 (y2), .int .i64 (y3)] 46 ∧ True) ⟨(by repeat (first | with_reducible exact Up.refl _ | with_reducible apply Up.plus | apply Up.ext | apply Up.alloc | apply Up.drew | (refine Up.setCell ?_ (by simp; try omega) _))), (by repeat (first | exact Box.mk rfl | (refine Box.mk ?_; simp; done) | apply Box.ext | apply Box.drew | apply Box.alloc | apply Box.two1 | (refine Box.other ?_ (by omega) _ _))), (by repeat (first | exact Box.mk rfl | (refine Box.mk ?_; simp; done) | apply Box.ext | apply Box.drew | apply Box.alloc | apply Box.two1 | (refine Box.other ?_ (by omega) _ _))), (by repeat (first | exact Box.mk rfl | (refine Box.mk ?_; simp; done) | apply Box.ext | apply Box.drew | apply Box.alloc | apply Box.two1 | (refine Box.other ?_ (by omega) _ _))), (by repeat (first | exact Box.mk rfl | (refine Box.mk ?_; simp; done) | apply Box.ext | apply Box.drew | apply Box.alloc | apply Box.two1 | (refine Box.other ?_ (by omega) _ _))), trivial⟩ ?_
    rintro V1 ⟨hu, bs, bo, bx, bb, _⟩
    have HB := hide (And.intro hu (And.intro bs (And.intro bo (And.intro bx (And.intro bb trivial)))))
    clear hu bs bo bx bb
    refine (H1.out _ HB.out.1).mono ?_
    intro p1
    have s0 := HB.out.2.1.cell 0 rfl
    have s1 := HB.out.2.1.cell 1 rfl
    have s2 := HB.out.2.1.cell 2 rfl
    have s3 := HB.out.2.1.cell 3 rfl
    have ls := HB.out.2.1.lt
    have f0 := HB.out.2.2.1.cell 0 rfl
    have f1 := HB.out.2.2.1.cell 1 rfl
    have f2 := HB.out.2.2.1.cell 2 rfl
    have f3 := HB.out.2.2.1.cell 3 rfl
    have f4 := HB.out.2.2.1.cell 4 rfl
    have f5 := HB.out.2.2.1.cell 5 rfl
    have f6 := HB.out.2.2.1.cell 6 rfl
    have f7 := HB.out.2.2.1.cell 7 rfl
    have f8 := HB.out.2.2.1.cell 8 rfl
    have f9 := HB.out.2.2.1.cell 9 rfl
    have f10 := HB.out.2.2.1.cell 10 rfl
    have lf := HB.out.2.2.1.lt
    have g0 := HB.out.2.2.2.1.cell 0 rfl
    have g1 := HB.out.2.2.2.1.cell 1 rfl
    have g2 := HB.out.2.2.2.1.cell 2 rfl
    have g3 := HB.out.2.2.2.1.cell 3 rfl
    have lg := HB.out.2.2.2.1.lt
    have k0 := HB.out.2.2.2.2.1.cell 0 rfl
    have k1 := HB.out.2.2.2.2.1.cell 1 rfl
    have k2 := HB.out.2.2.2.2.1.cell 2 rfl
    have k3 := HB.out.2.2.2.2.1.cell 3 rfl
    have lk := HB.out.2.2.2.2.1.lt
    obtain ⟨Q9, hQ9⟩ : ∃ T, V1.heap.size + p1.os.size = T := ⟨_, rfl⟩
    go_wp2_with fail
    go_at_call 23
    try rw [hQ9]
    refine forgetK (fun V => Up w V ∧ Box V w.heap.size #[.slice a n c, .int .i64 home, .slice sa sn sc, .slice ca cn cc] 28 ∧ Box V (w.heap.size + 1) (offA o) 32 ∧ Box V (w.heap.size + 1 + 1) #[.int .i64 (x0), .int .i64 (x1), .int .i64 (x2), .int .i64 (x3)] 46 ∧ Box V (w.heap.size + 1 + 1 + 1) #[.int .i64 (y0), .int .i64 (y1), .int .i64 (y2), .int .i64 (y3)] 46 ∧ Box V Q9 #[.bool A1, .bool A2, .int .i64 A3, .int .i64 A4] 50) ⟨(by repeat (first | with_reducible exact HB.out.1 | with_reducible exact Up.refl _ | with_reducible apply Up.ext | with_reducible apply Up.alloc | with_reducible apply Up.drew | (with_reducible refine Up.setCell ?_ (by simp only; omega) _))), (by repeat (first | with_reducible exact HB.out.2.1 | with_reducible apply Box.ext | with_reducible apply Box.alloc | with_reducible apply Box.drew | (with_reducible refine Box.other ?_ (by omega) _ _))), (by repeat (first | with_reducible exact HB.out.2.2.1 | with_reducible apply Box.ext | with_reducible apply Box.alloc | with_reducible apply Box.drew | (with_reducible refine Box.other ?_ (by omega) _ _))), (by repeat (first | with_reducible exact HB.out.2.2.2.1 | with_reducible apply Box.ext | with_reducible apply Box.alloc | with_reducible apply Box.drew | (with_reducible refine Box.other ?_ (by omega) _ _))), (by repeat (first | with_reducible exact HB.out.2.2.2.2.1 | with_reducible apply Box.ext | with_reducible apply Box.alloc | with_reducible apply Box.drew | (with_reducible refine Box.other ?_ (by omega) _ _))), by rw [← hQ9]; exact (by repeat (first | exact Box.mk rfl | (refine Box.mk ?_; simp; done) | apply Box.ext | apply Box.drew | apply Box.alloc | apply Box.two1 | (refine Box.other ?_ (by omega) _ _)))⟩ ?_
    clear HB hQ9 s0 s1 s2 s3 ls f0 f1 f2 f3 f4 f5 f6 f7 f8 f9 f10 lf g0 g1 g2 g3 lg k0 k1 k2 k3 lk
    rintro V2 ⟨hu, bs, bo, bx, bb, b9⟩
    have HB := hide (And.intro hu b9)
    clear bs bo bx bb
    refine (H2.out _ hu).mono ?_
    intro p2
    have m0 := b9.cell 0 rfl
    have m1 := b9.cell 1 rfl
    have m2 := b9.cell 2 rfl
    have m3 := b9.cell 3 rfl
    have lm := b9.lt
    clear hu b9
    go_wp2
    go_ret
    exact ⟨rfl, (by repeat (first | with_reducible exact HB.out.1 | with_reducible exact Up.refl _ | apply Up.ext | apply Up.alloc | apply Up.drew | (refine Up.setCell ?_ (by simp [World.setCell]; try omega) _)))⟩
  subst hf
  rw [decide_eq_true (rfl : (0 : Int) = 0), Bool.true_and, Bool.true_and]
  (unfold Gives; go_enter Tryz.func25, Tryz.ntmps25)
  go_wp2_with fail
  go_at_call 23
  refine forgetK (fun V => Up w V ∧ Box V w.heap.size #[.slice a n c, .int .i64 home, .slice sa sn sc, .slice ca cn cc] 28 ∧ Box V (w.heap.size + 1) (offA o) 32 ∧ Box V (w.heap.size + 1 + 1) #[.int .i64 (x0), .int .i64 (x1), .int .i64 (x2), .int .i64 (x3)] 46 ∧ Box V (w.heap.size + 1 + 1 + 1) #[.int .i64 (y0), .int .i64 (y1), .int .i64 (y2), .int .i64 (y3)] 46 ∧ True) ⟨(by repeat (first | with_reducible exact Up.refl _ | with_reducible apply Up.plus | apply Up.ext | apply Up.alloc | apply Up.drew | (refine Up.setCell ?_ (by simp; try omega) _))), (by repeat (first | exact Box.mk rfl | (refine Box.mk ?_; simp; done) | apply Box.ext | apply Box.drew | apply Box.alloc | apply Box.two1 | (refine Box.other ?_ (by omega) _ _))), (by repeat (first | exact Box.mk rfl | (refine Box.mk ?_; simp; done) | apply Box.ext | apply Box.drew | apply Box.alloc | apply Box.two1 | (refine Box.other ?_ (by omega) _ _))), (by repeat (first | exact Box.mk rfl | (refine Box.mk ?_; simp; done) | apply Box.ext | apply Box.drew | apply Box.alloc | apply Box.two1 | (refine Box.other ?_ (by omega) _ _))), (by repeat (first | exact Box.mk rfl | (refine Box.mk ?_; simp; done) | apply Box.ext | apply Box.drew | apply Box.alloc | apply Box.two1 | (refine Box.other ?_ (by omega) _ _))), trivial⟩ ?_
  rintro V1 ⟨hu, bs, bo, bx, bb, _⟩
  have HB := hide (And.intro hu (And.intro bs (And.intro bo (And.intro bx (And.intro bb trivial)))))
  clear hu bs bo bx bb
  refine (H1.out _ HB.out.1).mono ?_
  intro p1
  have s0 := HB.out.2.1.cell 0 rfl
  have s1 := HB.out.2.1.cell 1 rfl
  have s2 := HB.out.2.1.cell 2 rfl
  have s3 := HB.out.2.1.cell 3 rfl
  have ls := HB.out.2.1.lt
  have f0 := HB.out.2.2.1.cell 0 rfl
  have f1 := HB.out.2.2.1.cell 1 rfl
  have f2 := HB.out.2.2.1.cell 2 rfl
  have f3 := HB.out.2.2.1.cell 3 rfl
  have f4 := HB.out.2.2.1.cell 4 rfl
  have f5 := HB.out.2.2.1.cell 5 rfl
  have f6 := HB.out.2.2.1.cell 6 rfl
  have f7 := HB.out.2.2.1.cell 7 rfl
  have f8 := HB.out.2.2.1.cell 8 rfl
  have f9 := HB.out.2.2.1.cell 9 rfl
  have f10 := HB.out.2.2.1.cell 10 rfl
  have lf := HB.out.2.2.1.lt
  have g0 := HB.out.2.2.2.1.cell 0 rfl
  have g1 := HB.out.2.2.2.1.cell 1 rfl
  have g2 := HB.out.2.2.2.1.cell 2 rfl
  have g3 := HB.out.2.2.2.1.cell 3 rfl
  have lg := HB.out.2.2.2.1.lt
  have k0 := HB.out.2.2.2.2.1.cell 0 rfl
  have k1 := HB.out.2.2.2.2.1.cell 1 rfl
  have k2 := HB.out.2.2.2.2.1.cell 2 rfl
  have k3 := HB.out.2.2.2.2.1.cell 3 rfl
  have lk := HB.out.2.2.2.2.1.lt
  obtain ⟨Q9, hQ9⟩ : ∃ T, V1.heap.size + p1.os.size = T := ⟨_, rfl⟩
  go_wp2_with fail
  go_at_call 23
  try rw [hQ9]
  refine forgetK (fun V => Up w V ∧ Box V w.heap.size #[.slice a n c, .int .i64 home, .slice sa sn sc, .slice ca cn cc] 28 ∧ Box V (w.heap.size + 1) (offA o) 32 ∧ Box V (w.heap.size + 1 + 1) #[.int .i64 (x0), .int .i64 (x1), .int .i64 (x2), .int .i64 (x3)] 46 ∧ Box V (w.heap.size + 1 + 1 + 1) #[.int .i64 (y0), .int .i64 (y1), .int .i64 (y2), .int .i64 (y3)] 46 ∧ Box V Q9 #[.bool A1, .bool A2, .int .i64 A3, .int .i64 A4] 50) ⟨(by repeat (first | with_reducible exact HB.out.1 | with_reducible exact Up.refl _ | with_reducible apply Up.ext | with_reducible apply Up.alloc | with_reducible apply Up.drew | (with_reducible refine Up.setCell ?_ (by simp only; omega) _))), (by repeat (first | with_reducible exact HB.out.2.1 | with_reducible apply Box.ext | with_reducible apply Box.alloc | with_reducible apply Box.drew | (with_reducible refine Box.other ?_ (by omega) _ _))), (by repeat (first | with_reducible exact HB.out.2.2.1 | with_reducible apply Box.ext | with_reducible apply Box.alloc | with_reducible apply Box.drew | (with_reducible refine Box.other ?_ (by omega) _ _))), (by repeat (first | with_reducible exact HB.out.2.2.2.1 | with_reducible apply Box.ext | with_reducible apply Box.alloc | with_reducible apply Box.drew | (with_reducible refine Box.other ?_ (by omega) _ _))), (by repeat (first | with_reducible exact HB.out.2.2.2.2.1 | with_reducible apply Box.ext | with_reducible apply Box.alloc | with_reducible apply Box.drew | (with_reducible refine Box.other ?_ (by omega) _ _))), by rw [← hQ9]; exact (by repeat (first | exact Box.mk rfl | (refine Box.mk ?_; simp; done) | apply Box.ext | apply Box.drew | apply Box.alloc | apply Box.two1 | (refine Box.other ?_ (by omega) _ _)))⟩ ?_
  clear HB hQ9 s0 s1 s2 s3 ls f0 f1 f2 f3 f4 f5 f6 f7 f8 f9 f10 lf g0 g1 g2 g3 lg k0 k1 k2 k3 lk
  rintro V2 ⟨hu, bs, bo, bx, bb, b9⟩
  have HB := hide (And.intro hu b9)
  clear bs bo bx bb
  refine (H2.out _ hu).mono ?_
  intro p2
  have m0 := b9.cell 0 rfl
  have m1 := b9.cell 1 rfl
  have m2 := b9.cell 2 rfl
  have m3 := b9.cell 3 rfl
  have lm := b9.lt
  clear hu b9
  go_wp2_with fail
  go_at_call 77
  refine (HM.out (by trivial) (by trivial) _).mono ?_
  intro p3
  go_wp2
  go_ret
  exact ⟨rfl, (by repeat (first | with_reducible exact HB.out.1 | with_reducible exact Up.refl _ | apply Up.ext | apply Up.alloc | apply Up.drew | (refine Up.setCell ?_ (by simp [World.setCell]; try omega) _)))⟩
end Go.Proofs.YtnaiaodnnmhdkaaGreat
