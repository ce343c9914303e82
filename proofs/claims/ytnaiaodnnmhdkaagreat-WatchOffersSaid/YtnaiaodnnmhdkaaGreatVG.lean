/- Reference bolideref06: the values of a place; whether a place agrees with a reading. Conditions: what lies in memory. -/
import Derived.Test.YtnaiaodnnmhdkaaGreatVF
namespace Go.Proofs.YtnaiaodnnmhdkaaGreat
set_option linter.unusedVariables false
set_option linter.unusedSimpArgs false
open Go.RowKit Go.Shelf

set_option maxRecDepth 100000 in
set_option maxHeartbeats 4000000 in
theorem vReads_any {K : Nat → Prop} {w : World} {a sa ca : Option Addr} {n c sn sc cn cc : Nat} {s : SkyD} (hL : SkyL K w a n c sa sn sc ca cn cc s) (o : OffD) (p : Int × Int) : Gives Tryz.prog 15 #[.agg #[.slice a n c, .int .i64 s.home, .slice sa sn sc, .slice ca cn cc], .agg (offA o), .agg #[.int .i64 (p.1), .int .i64 (p.2)]] w (.tuple #[.agg #[.int .i64 ((readsV s o p).1.1), .int .i64 ((readsV s o p).1.2)], .bool (readsV s o p).2]) := by
  have HF := hide (fun W (hu : Up w W) => vField_any (hL.up hu) o p)
  obtain ⟨x, y⟩ := p
  dsimp only at *
  unfold readsV
  by_cases hF : fieldV s o (x, y) = true
  rotate_left
  · rw [if_neg (by simp [hF])]
    replace hF : fieldV s o (x, y) = false := Bool.eq_false_iff.2 hF
    rw [hF] at HF
    generalize s.home = home at *
    clear hL hF
    dsimp only
    (unfold Gives; go_enter Tryz.func15, Tryz.ntmps15)
    go_wp2_with fail
    go_at_call 19
    refine forgetK (fun V => Up w V ∧ Box V w.heap.size #[.slice a n c, .int .i64 home, .slice sa sn sc, .slice ca cn cc] 28 ∧ Box V (w.heap.size + 1) (offA o) 32 ∧ Box V (w.heap.size + 1 + 1) #[.int .i64 (x), .int .i64 (y)] 30 ∧ Box V (w.heap.size + 1 + 1 + 1) #[.int .i64 (0), .int .i64 (0)] 38) ⟨(by repeat (first | with_reducible exact Up.refl _ | with_reducible apply Up.plus | apply Up.ext | apply Up.alloc | apply Up.drew | (refine Up.setCell ?_ (by simp; try omega) _))), (by repeat (first | exact Box.mk rfl | (refine Box.mk ?_; simp; done) | apply Box.ext | apply Box.drew | apply Box.alloc | apply Box.two1 | (refine Box.other ?_ (by omega) _ _))), (by repeat (first | exact Box.mk rfl | (refine Box.mk ?_; simp; done) | apply Box.ext | apply Box.drew | apply Box.alloc | apply Box.two1 | (refine Box.other ?_ (by omega) _ _))), (by repeat (first | exact Box.mk rfl | (refine Box.mk ?_; simp; done) | apply Box.ext | apply Box.drew | apply Box.alloc | apply Box.two1 | (refine Box.other ?_ (by omega) _ _))), (by repeat (first | exact Box.mk rfl | (refine Box.mk ?_; simp; done) | apply Box.ext | apply Box.drew | apply Box.alloc | apply Box.two1 | (refine Box.other ?_ (by omega) _ _)))⟩ ?_
    rintro V ⟨hu, b0, b1, b2, b3⟩
    have s0 := b0.cell 0 rfl
    have s1 := b0.cell 1 rfl
    have s2 := b0.cell 2 rfl
    have s3 := b0.cell 3 rfl
    have ls := b0.lt
    have f0 := b1.cell 0 rfl
    have f1 := b1.cell 1 rfl
    have f2 := b1.cell 2 rfl
    have f3 := b1.cell 3 rfl
    have f4 := b1.cell 4 rfl
    have f5 := b1.cell 5 rfl
    have f6 := b1.cell 6 rfl
    have f7 := b1.cell 7 rfl
    have f8 := b1.cell 8 rfl
    have f9 := b1.cell 9 rfl
    have f10 := b1.cell 10 rfl
    have lf := b1.lt
    have g0 := b2.cell 0 rfl
    have g1 := b2.cell 1 rfl
    have lg := b2.lt
    have z0 := b3.cell 0 rfl
    have z1 := b3.cell 1 rfl
    have lz := b3.lt
    have fzz0 := b3.frozen 0
    have fzz1 := b3.frozen 1
    have HB := hide (And.intro hu b3)
    clear hu b0 b1 b2 b3
    refine (HF.out _ HB.out.1).mono ?_
    intro q1
    go_wp2_with fail
    refine forgetW (fun WF => Up w WF ∧ Box WF (w.heap.size + 1 + 1 + 1) #[.int .i64 ((0)), .int .i64 ((0))] 38) ⟨(by repeat (first | with_reducible exact HB.out.1 | with_reducible exact Up.refl _ | with_reducible apply Up.ext | with_reducible apply Up.alloc | with_reducible apply Up.drew | (with_reducible refine Up.setCell ?_ (by simp only; omega) _))), ?_⟩ ?_
    · exact (by (repeat (first | with_reducible apply Box.ext | with_reducible apply Box.alloc | with_reducible apply Box.drew)); exact ((HB.out.2.set 0 (.int .i64 (0))).set 1 (.int .i64 (0))))
    rintro WF ⟨huF, hbF⟩
    have w0 := hbF.cell 0 rfl
    have w1 := hbF.cell 1 rfl
    (refine bodyPost_give huF rfl ⟨_, (by simp [results, Tryz.results15, go_sem, w0, w1]; rfl), ?_⟩)
    rfl
  obtain ⟨he, hp, hf⟩ := fieldV_true hF
  have HR := hide (fun W (hu : Up w W) => vreads0_any (hL.up hu) o he hp hf)
  rw [hF] at HF
  by_cases hlo : (readsK (kndOf s o) (x, y)).1 ≤ (readsK (kndOf s o) (x, y)).2
  · rw [if_pos ⟨hF, hlo⟩]
    dsimp only
    generalize (readsK (kndOf s o) (x, y)).1 = l1 at *
    generalize (readsK (kndOf s o) (x, y)).2 = l2 at *
    have hlo2 : ¬ l2 < l1 := by omega
    clear hF he hp hf hL
    generalize s.home = home at *
    (unfold Gives; go_enter Tryz.func15, Tryz.ntmps15)
    go_wp2_with fail
    go_at_call 19
    refine forgetK (fun V => Up w V ∧ Box V w.heap.size #[.slice a n c, .int .i64 home, .slice sa sn sc, .slice ca cn cc] 28 ∧ Box V (w.heap.size + 1) (offA o) 32 ∧ Box V (w.heap.size + 1 + 1) #[.int .i64 (x), .int .i64 (y)] 30 ∧ Box V (w.heap.size + 1 + 1 + 1) #[.int .i64 (0), .int .i64 (0)] 38) ⟨(by repeat (first | with_reducible exact Up.refl _ | with_reducible apply Up.plus | apply Up.ext | apply Up.alloc | apply Up.drew | (refine Up.setCell ?_ (by simp; try omega) _))), (by repeat (first | exact Box.mk rfl | (refine Box.mk ?_; simp; done) | apply Box.ext | apply Box.drew | apply Box.alloc | apply Box.two1 | (refine Box.other ?_ (by omega) _ _))), (by repeat (first | exact Box.mk rfl | (refine Box.mk ?_; simp; done) | apply Box.ext | apply Box.drew | apply Box.alloc | apply Box.two1 | (refine Box.other ?_ (by omega) _ _))), (by repeat (first | exact Box.mk rfl | (refine Box.mk ?_; simp; done) | apply Box.ext | apply Box.drew | apply Box.alloc | apply Box.two1 | (refine Box.other ?_ (by omega) _ _))), (by repeat (first | exact Box.mk rfl | (refine Box.mk ?_; simp; done) | apply Box.ext | apply Box.drew | apply Box.alloc | apply Box.two1 | (refine Box.other ?_ (by omega) _ _)))⟩ ?_
    rintro V ⟨hu, b0, b1, b2, b3⟩
    have s0 := b0.cell 0 rfl
    have s1 := b0.cell 1 rfl
    have s2 := b0.cell 2 rfl
    have s3 := b0.cell 3 rfl
    have ls := b0.lt
    have f0 := b1.cell 0 rfl
    have f1 := b1.cell 1 rfl
    have f2 := b1.cell 2 rfl
    have f3 := b1.cell 3 rfl
    have f4 := b1.cell 4 rfl
    have f5 := b1.cell 5 rfl
    have f6 := b1.cell 6 rfl
    have f7 := b1.cell 7 rfl
    have f8 := b1.cell 8 rfl
    have f9 := b1.cell 9 rfl
    have f10 := b1.cell 10 rfl
    have lf := b1.lt
    have g0 := b2.cell 0 rfl
    have g1 := b2.cell 1 rfl
    have lg := b2.lt
    have z0 := b3.cell 0 rfl
    have z1 := b3.cell 1 rfl
    have lz := b3.lt
    have fzz0 := b3.frozen 0
    have fzz1 := b3.frozen 1
    have HB := hide (And.intro hu b3)
    clear hu b0 b1 b2 b3
    refine (HF.out _ HB.out.1).mono ?_
    intro q1
    go_wp2_with fail
    go_at_call 59
    refine (HR.out _ (by repeat (first | with_reducible exact HB.out.1 | with_reducible apply Up.ext | with_reducible apply Up.alloc | with_reducible apply Up.drew))).mono ?_
    intro q2
    go_wp2_with fail
    refine forgetW (fun WF => Up w WF ∧ Box WF (w.heap.size + 1 + 1 + 1) #[.int .i64 ((l1)), .int .i64 ((l2))] 38) ⟨(by repeat (first | with_reducible exact HB.out.1 | with_reducible exact Up.refl _ | with_reducible apply Up.ext | with_reducible apply Up.alloc | with_reducible apply Up.drew | (with_reducible refine Up.setCell ?_ (by simp only; omega) _))), ?_⟩ ?_
    · exact (by (repeat (first | with_reducible apply Box.ext | with_reducible apply Box.alloc | with_reducible apply Box.drew)); exact ((HB.out.2.set 0 (.int .i64 (l1))).set 1 (.int .i64 (l2))))
    rintro WF ⟨huF, hbF⟩
    have w0 := hbF.cell 0 rfl
    have w1 := hbF.cell 1 rfl
    (refine bodyPost_give huF rfl ⟨_, (by simp [results, Tryz.results15, go_sem, w0, w1]; rfl), ?_⟩)
    rfl
  · rw [if_neg (fun h => hlo h.2)]
    dsimp only
    generalize (readsK (kndOf s o) (x, y)).1 = l1 at *
    generalize (readsK (kndOf s o) (x, y)).2 = l2 at *
    have hlo2 : l2 < l1 := by omega
    clear hF he hp hf hL hlo
    generalize s.home = home at *
    (unfold Gives; go_enter Tryz.func15, Tryz.ntmps15)
    go_wp2_with fail
    go_at_call 19
    refine forgetK (fun V => Up w V ∧ Box V w.heap.size #[.slice a n c, .int .i64 home, .slice sa sn sc, .slice ca cn cc] 28 ∧ Box V (w.heap.size + 1) (offA o) 32 ∧ Box V (w.heap.size + 1 + 1) #[.int .i64 (x), .int .i64 (y)] 30 ∧ Box V (w.heap.size + 1 + 1 + 1) #[.int .i64 (0), .int .i64 (0)] 38) ⟨(by repeat (first | with_reducible exact Up.refl _ | with_reducible apply Up.plus | apply Up.ext | apply Up.alloc | apply Up.drew | (refine Up.setCell ?_ (by simp; try omega) _))), (by repeat (first | exact Box.mk rfl | (refine Box.mk ?_; simp; done) | apply Box.ext | apply Box.drew | apply Box.alloc | apply Box.two1 | (refine Box.other ?_ (by omega) _ _))), (by repeat (first | exact Box.mk rfl | (refine Box.mk ?_; simp; done) | apply Box.ext | apply Box.drew | apply Box.alloc | apply Box.two1 | (refine Box.other ?_ (by omega) _ _))), (by repeat (first | exact Box.mk rfl | (refine Box.mk ?_; simp; done) | apply Box.ext | apply Box.drew | apply Box.alloc | apply Box.two1 | (refine Box.other ?_ (by omega) _ _))), (by repeat (first | exact Box.mk rfl | (refine Box.mk ?_; simp; done) | apply Box.ext | apply Box.drew | apply Box.alloc | apply Box.two1 | (refine Box.other ?_ (by omega) _ _)))⟩ ?_
    rintro V ⟨hu, b0, b1, b2, b3⟩
    have s0 := b0.cell 0 rfl
    have s1 := b0.cell 1 rfl
    have s2 := b0.cell 2 rfl
    have s3 := b0.cell 3 rfl
    have ls := b0.lt
    have f0 := b1.cell 0 rfl
    have f1 := b1.cell 1 rfl
    have f2 := b1.cell 2 rfl
    have f3 := b1.cell 3 rfl
    have f4 := b1.cell 4 rfl
    have f5 := b1.cell 5 rfl
    have f6 := b1.cell 6 rfl
    have f7 := b1.cell 7 rfl
    have f8 := b1.cell 8 rfl
    have f9 := b1.cell 9 rfl
    have f10 := b1.cell 10 rfl
    have lf := b1.lt
    have g0 := b2.cell 0 rfl
    have g1 := b2.cell 1 rfl
    have lg := b2.lt
    have z0 := b3.cell 0 rfl
    have z1 := b3.cell 1 rfl
    have lz := b3.lt
    have fzz0 := b3.frozen 0
    have fzz1 := b3.frozen 1
    have HB := hide (And.intro hu b3)
    clear hu b0 b1 b2 b3
    refine (HF.out _ HB.out.1).mono ?_
    intro q1
    go_wp2_with fail
    go_at_call 59
    refine (HR.out _ (by repeat (first | with_reducible exact HB.out.1 | with_reducible apply Up.ext | with_reducible apply Up.alloc | with_reducible apply Up.drew))).mono ?_
    intro q2
    go_wp2_with fail
    refine forgetW (fun WF => Up w WF ∧ Box WF (w.heap.size + 1 + 1 + 1) #[.int .i64 ((0)), .int .i64 ((0))] 38) ⟨(by repeat (first | with_reducible exact HB.out.1 | with_reducible exact Up.refl _ | with_reducible apply Up.ext | with_reducible apply Up.alloc | with_reducible apply Up.drew | (with_reducible refine Up.setCell ?_ (by simp only; omega) _))), ?_⟩ ?_
    · exact (by (repeat (first | with_reducible apply Box.ext | with_reducible apply Box.alloc | with_reducible apply Box.drew)); exact ((HB.out.2.set 0 (.int .i64 (0))).set 1 (.int .i64 (0))))
    rintro WF ⟨huF, hbF⟩
    have w0 := hbF.cell 0 rfl
    have w1 := hbF.cell 1 rfl
    (refine bodyPost_give huF rfl ⟨_, (by simp [results, Tryz.results15, go_sem, w0, w1]; rfl), ?_⟩)
    rfl
set_option maxRecDepth 100000 in
set_option maxHeartbeats 4000000 in
theorem vAgrees_any {K : Nat → Prop} {w : World} {a sa ca : Option Addr} {n c sn sc cn cc : Nat} {s : SkyD} (hL : SkyL K w a n c sa sn sc ca cn cc s) (o : OffD) (i v : Int) (p : Int × Int) : Gives Tryz.prog 21 #[.agg #[.slice a n c, .int .i64 s.home, .slice sa sn sc, .slice ca cn cc], .agg (offA o), .agg #[.int .i64 (i), .int .i64 (v)], .agg #[.int .i64 (p.1), .int .i64 (p.2)]] w (.bool (agreesV s o i v p)) := by
  have HC := hide (fun W (hu : Up w W) => vCheck_any (hL.up hu) o)
  obtain ⟨x, y⟩ := p
  have HN := hide (fun W => snear_any x y W)
  dsimp only
  by_cases he : offE s o = 0
  rotate_left
  · have hE : agreesV s o i v (x, y) = false := by unfold agreesV; rw [if_neg (fun h => he h.1)]
    rw [hE]
    have heb : (offE s o != 0) = true := by simpa using he
    generalize offE s o = e at *
    generalize s.home = home at *
    clear hL he HN hE
    (unfold Gives; go_enter Tryz.func21, Tryz.ntmps21)
    go_wp2_with fail
    go_at_call 17
    refine forgetK (fun V => Up w V ∧ Box V w.heap.size #[.slice a n c, .int .i64 home, .slice sa sn sc, .slice ca cn cc] 28 ∧ Box V (w.heap.size + 1) (offA o) 32 ∧ Box V (w.heap.size + 1 + 1) #[.int .i64 (i), .int .i64 (v)] 34 ∧ Box V (w.heap.size + 1 + 1 + 1) #[.int .i64 (x), .int .i64 (y)] 30) ⟨(by repeat (first | with_reducible exact Up.refl _ | with_reducible apply Up.plus | apply Up.ext | apply Up.alloc | apply Up.drew | (refine Up.setCell ?_ (by simp; try omega) _))), (by repeat (first | exact Box.mk rfl | (refine Box.mk ?_; simp; done) | apply Box.ext | apply Box.drew | apply Box.alloc | apply Box.two1 | (refine Box.other ?_ (by omega) _ _))), (by repeat (first | exact Box.mk rfl | (refine Box.mk ?_; simp; done) | apply Box.ext | apply Box.drew | apply Box.alloc | apply Box.two1 | (refine Box.other ?_ (by omega) _ _))), (by repeat (first | exact Box.mk rfl | (refine Box.mk ?_; simp; done) | apply Box.ext | apply Box.drew | apply Box.alloc | apply Box.two1 | (refine Box.other ?_ (by omega) _ _))), (by repeat (first | exact Box.mk rfl | (refine Box.mk ?_; simp; done) | apply Box.ext | apply Box.drew | apply Box.alloc | apply Box.two1 | (refine Box.other ?_ (by omega) _ _)))⟩ ?_
    rintro V ⟨hu, b0, b1, b2, b3⟩
    have s0 := b0.cell 0 rfl
    have s1 := b0.cell 1 rfl
    have s2 := b0.cell 2 rfl
    have s3 := b0.cell 3 rfl
    have ls := b0.lt
    have f0 := b1.cell 0 rfl
    have f1 := b1.cell 1 rfl
    have f2 := b1.cell 2 rfl
    have f3 := b1.cell 3 rfl
    have f4 := b1.cell 4 rfl
    have f5 := b1.cell 5 rfl
    have f6 := b1.cell 6 rfl
    have f7 := b1.cell 7 rfl
    have f8 := b1.cell 8 rfl
    have f9 := b1.cell 9 rfl
    have f10 := b1.cell 10 rfl
    have lf := b1.lt
    have r0 := b2.cell 0 rfl
    have r1 := b2.cell 1 rfl
    have lr := b2.lt
    have g0 := b3.cell 0 rfl
    have g1 := b3.cell 1 rfl
    have lg := b3.lt
    have HB := hide (hu)
    clear hu b0 b1 b2 b3
    refine (HC.out _ HB.out).mono ?_
    intro q1
    go_wp2_with fail
    go_ret
    exact ⟨rfl, (by repeat (first | with_reducible exact HB.out | with_reducible exact Up.refl _ | apply Up.ext | apply Up.alloc | apply Up.drew | (refine Up.setCell ?_ (by simp [World.setCell]; try omega) _)))⟩
  rw [he] at HC
  by_cases hN : nearV 33554432 (x, y) = true
  rotate_left
  · have hE : agreesV s o i v (x, y) = false := by unfold agreesV; rw [if_neg (fun h => hN h.2)]
    rw [hE]
    rw [Bool.eq_false_iff.2 hN] at HN
    generalize s.home = home at *
    clear hL he hN hE
    (unfold Gives; go_enter Tryz.func21, Tryz.ntmps21)
    go_wp2_with fail
    go_at_call 17
    refine forgetK (fun V => Up w V ∧ Box V w.heap.size #[.slice a n c, .int .i64 home, .slice sa sn sc, .slice ca cn cc] 28 ∧ Box V (w.heap.size + 1) (offA o) 32 ∧ Box V (w.heap.size + 1 + 1) #[.int .i64 (i), .int .i64 (v)] 34 ∧ Box V (w.heap.size + 1 + 1 + 1) #[.int .i64 (x), .int .i64 (y)] 30) ⟨(by repeat (first | with_reducible exact Up.refl _ | with_reducible apply Up.plus | apply Up.ext | apply Up.alloc | apply Up.drew | (refine Up.setCell ?_ (by simp; try omega) _))), (by repeat (first | exact Box.mk rfl | (refine Box.mk ?_; simp; done) | apply Box.ext | apply Box.drew | apply Box.alloc | apply Box.two1 | (refine Box.other ?_ (by omega) _ _))), (by repeat (first | exact Box.mk rfl | (refine Box.mk ?_; simp; done) | apply Box.ext | apply Box.drew | apply Box.alloc | apply Box.two1 | (refine Box.other ?_ (by omega) _ _))), (by repeat (first | exact Box.mk rfl | (refine Box.mk ?_; simp; done) | apply Box.ext | apply Box.drew | apply Box.alloc | apply Box.two1 | (refine Box.other ?_ (by omega) _ _))), (by repeat (first | exact Box.mk rfl | (refine Box.mk ?_; simp; done) | apply Box.ext | apply Box.drew | apply Box.alloc | apply Box.two1 | (refine Box.other ?_ (by omega) _ _)))⟩ ?_
    rintro V ⟨hu, b0, b1, b2, b3⟩
    have s0 := b0.cell 0 rfl
    have s1 := b0.cell 1 rfl
    have s2 := b0.cell 2 rfl
    have s3 := b0.cell 3 rfl
    have ls := b0.lt
    have f0 := b1.cell 0 rfl
    have f1 := b1.cell 1 rfl
    have f2 := b1.cell 2 rfl
    have f3 := b1.cell 3 rfl
    have f4 := b1.cell 4 rfl
    have f5 := b1.cell 5 rfl
    have f6 := b1.cell 6 rfl
    have f7 := b1.cell 7 rfl
    have f8 := b1.cell 8 rfl
    have f9 := b1.cell 9 rfl
    have f10 := b1.cell 10 rfl
    have lf := b1.lt
    have r0 := b2.cell 0 rfl
    have r1 := b2.cell 1 rfl
    have lr := b2.lt
    have g0 := b3.cell 0 rfl
    have g1 := b3.cell 1 rfl
    have lg := b3.lt
    have HB := hide (hu)
    clear hu b0 b1 b2 b3
    refine (HC.out _ HB.out).mono ?_
    intro q1
    go_wp2_with (first | (go_at_call 69; (with_reducible refine (HN.out _).mono ?_); intro _))
    go_ret
    exact ⟨rfl, (by repeat (first | with_reducible exact HB.out | with_reducible exact Up.refl _ | apply Up.ext | apply Up.alloc | apply Up.drew | (refine Up.setCell ?_ (by simp [World.setCell]; try omega) _)))⟩
  rw [hN] at HN
  have hp := (nearV_iff _ _).1 hN
  have hi : i < 0 ∨ (¬ i < 0 ∧ 2 < i) ∨ i = 0 ∨ i = 1 ∨ i = 2 := by omega
  rcases hi with hi | ⟨hi, hi2⟩ | rfl | rfl | rfl
  · have hE : agreesV s o i v (x, y) = false := by unfold agreesV; rw [if_pos ⟨he, hN⟩, if_neg (by omega), if_neg (by omega), if_neg (by omega)]
    rw [hE]
    generalize s.home = home at *
    clear hL he hN hE hp
    (unfold Gives; go_enter Tryz.func21, Tryz.ntmps21)
    go_wp2_with fail
    go_at_call 17
    refine forgetK (fun V => Up w V ∧ Box V w.heap.size #[.slice a n c, .int .i64 home, .slice sa sn sc, .slice ca cn cc] 28 ∧ Box V (w.heap.size + 1) (offA o) 32 ∧ Box V (w.heap.size + 1 + 1) #[.int .i64 (i), .int .i64 (v)] 34 ∧ Box V (w.heap.size + 1 + 1 + 1) #[.int .i64 (x), .int .i64 (y)] 30) ⟨(by repeat (first | with_reducible exact Up.refl _ | with_reducible apply Up.plus | apply Up.ext | apply Up.alloc | apply Up.drew | (refine Up.setCell ?_ (by simp; try omega) _))), (by repeat (first | exact Box.mk rfl | (refine Box.mk ?_; simp; done) | apply Box.ext | apply Box.drew | apply Box.alloc | apply Box.two1 | (refine Box.other ?_ (by omega) _ _))), (by repeat (first | exact Box.mk rfl | (refine Box.mk ?_; simp; done) | apply Box.ext | apply Box.drew | apply Box.alloc | apply Box.two1 | (refine Box.other ?_ (by omega) _ _))), (by repeat (first | exact Box.mk rfl | (refine Box.mk ?_; simp; done) | apply Box.ext | apply Box.drew | apply Box.alloc | apply Box.two1 | (refine Box.other ?_ (by omega) _ _))), (by repeat (first | exact Box.mk rfl | (refine Box.mk ?_; simp; done) | apply Box.ext | apply Box.drew | apply Box.alloc | apply Box.two1 | (refine Box.other ?_ (by omega) _ _)))⟩ ?_
    rintro V ⟨hu, b0, b1, b2, b3⟩
    have s0 := b0.cell 0 rfl
    have s1 := b0.cell 1 rfl
    have s2 := b0.cell 2 rfl
    have s3 := b0.cell 3 rfl
    have ls := b0.lt
    have f0 := b1.cell 0 rfl
    have f1 := b1.cell 1 rfl
    have f2 := b1.cell 2 rfl
    have f3 := b1.cell 3 rfl
    have f4 := b1.cell 4 rfl
    have f5 := b1.cell 5 rfl
    have f6 := b1.cell 6 rfl
    have f7 := b1.cell 7 rfl
    have f8 := b1.cell 8 rfl
    have f9 := b1.cell 9 rfl
    have f10 := b1.cell 10 rfl
    have lf := b1.lt
    have r0 := b2.cell 0 rfl
    have r1 := b2.cell 1 rfl
    have lr := b2.lt
    have g0 := b3.cell 0 rfl
    have g1 := b3.cell 1 rfl
    have lg := b3.lt
    have HB := hide (hu)
    clear hu b0 b1 b2 b3
    refine (HC.out _ HB.out).mono ?_
    intro q1
    go_wp2_with (first | (go_at_call 69; (with_reducible refine (HN.out _).mono ?_); intro _))
    go_ret
    exact ⟨rfl, (by repeat (first | with_reducible exact HB.out | with_reducible exact Up.refl _ | apply Up.ext | apply Up.alloc | apply Up.drew | (refine Up.setCell ?_ (by simp [World.setCell]; try omega) _)))⟩
  · have hE : agreesV s o i v (x, y) = false := by unfold agreesV; rw [if_pos ⟨he, hN⟩, if_neg (by omega), if_neg (by omega), if_neg (by omega)]
    rw [hE]
    generalize s.home = home at *
    clear hL he hN hE hp
    (unfold Gives; go_enter Tryz.func21, Tryz.ntmps21)
    go_wp2_with fail
    go_at_call 17
    refine forgetK (fun V => Up w V ∧ Box V w.heap.size #[.slice a n c, .int .i64 home, .slice sa sn sc, .slice ca cn cc] 28 ∧ Box V (w.heap.size + 1) (offA o) 32 ∧ Box V (w.heap.size + 1 + 1) #[.int .i64 (i), .int .i64 (v)] 34 ∧ Box V (w.heap.size + 1 + 1 + 1) #[.int .i64 (x), .int .i64 (y)] 30) ⟨(by repeat (first | with_reducible exact Up.refl _ | with_reducible apply Up.plus | apply Up.ext | apply Up.alloc | apply Up.drew | (refine Up.setCell ?_ (by simp; try omega) _))), (by repeat (first | exact Box.mk rfl | (refine Box.mk ?_; simp; done) | apply Box.ext | apply Box.drew | apply Box.alloc | apply Box.two1 | (refine Box.other ?_ (by omega) _ _))), (by repeat (first | exact Box.mk rfl | (refine Box.mk ?_; simp; done) | apply Box.ext | apply Box.drew | apply Box.alloc | apply Box.two1 | (refine Box.other ?_ (by omega) _ _))), (by repeat (first | exact Box.mk rfl | (refine Box.mk ?_; simp; done) | apply Box.ext | apply Box.drew | apply Box.alloc | apply Box.two1 | (refine Box.other ?_ (by omega) _ _))), (by repeat (first | exact Box.mk rfl | (refine Box.mk ?_; simp; done) | apply Box.ext | apply Box.drew | apply Box.alloc | apply Box.two1 | (refine Box.other ?_ (by omega) _ _)))⟩ ?_
    rintro V ⟨hu, b0, b1, b2, b3⟩
    have s0 := b0.cell 0 rfl
    have s1 := b0.cell 1 rfl
    have s2 := b0.cell 2 rfl
    have s3 := b0.cell 3 rfl
    have ls := b0.lt
    have f0 := b1.cell 0 rfl
    have f1 := b1.cell 1 rfl
    have f2 := b1.cell 2 rfl
    have f3 := b1.cell 3 rfl
    have f4 := b1.cell 4 rfl
    have f5 := b1.cell 5 rfl
    have f6 := b1.cell 6 rfl
    have f7 := b1.cell 7 rfl
    have f8 := b1.cell 8 rfl
    have f9 := b1.cell 9 rfl
    have f10 := b1.cell 10 rfl
    have lf := b1.lt
    have r0 := b2.cell 0 rfl
    have r1 := b2.cell 1 rfl
    have lr := b2.lt
    have g0 := b3.cell 0 rfl
    have g1 := b3.cell 1 rfl
    have lg := b3.lt
    have HB := hide (hu)
    clear hu b0 b1 b2 b3
    refine (HC.out _ HB.out).mono ?_
    intro q1
    go_wp2_with (first | (go_at_call 69; (with_reducible refine (HN.out _).mono ?_); intro _))
    go_ret
    exact ⟨rfl, (by repeat (first | with_reducible exact HB.out | with_reducible exact Up.refl _ | apply Up.ext | apply Up.alloc | apply Up.drew | (refine Up.setCell ?_ (by simp [World.setCell]; try omega) _)))⟩
  · have hE : agreesV s o 0 v (x, y) = true := by unfold agreesV; rw [if_pos ⟨he, hN⟩, if_pos rfl]
    rw [hE]
    generalize s.home = home at *
    clear hL he hN hE hp
    (unfold Gives; go_enter Tryz.func21, Tryz.ntmps21)
    go_wp2_with fail
    go_at_call 17
    refine forgetK (fun V => Up w V ∧ Box V w.heap.size #[.slice a n c, .int .i64 home, .slice sa sn sc, .slice ca cn cc] 28 ∧ Box V (w.heap.size + 1) (offA o) 32 ∧ Box V (w.heap.size + 1 + 1) #[.int .i64 (0), .int .i64 (v)] 34 ∧ Box V (w.heap.size + 1 + 1 + 1) #[.int .i64 (x), .int .i64 (y)] 30) ⟨(by repeat (first | with_reducible exact Up.refl _ | with_reducible apply Up.plus | apply Up.ext | apply Up.alloc | apply Up.drew | (refine Up.setCell ?_ (by simp; try omega) _))), (by repeat (first | exact Box.mk rfl | (refine Box.mk ?_; simp; done) | apply Box.ext | apply Box.drew | apply Box.alloc | apply Box.two1 | (refine Box.other ?_ (by omega) _ _))), (by repeat (first | exact Box.mk rfl | (refine Box.mk ?_; simp; done) | apply Box.ext | apply Box.drew | apply Box.alloc | apply Box.two1 | (refine Box.other ?_ (by omega) _ _))), (by repeat (first | exact Box.mk rfl | (refine Box.mk ?_; simp; done) | apply Box.ext | apply Box.drew | apply Box.alloc | apply Box.two1 | (refine Box.other ?_ (by omega) _ _))), (by repeat (first | exact Box.mk rfl | (refine Box.mk ?_; simp; done) | apply Box.ext | apply Box.drew | apply Box.alloc | apply Box.two1 | (refine Box.other ?_ (by omega) _ _)))⟩ ?_
    rintro V ⟨hu, b0, b1, b2, b3⟩
    have s0 := b0.cell 0 rfl
    have s1 := b0.cell 1 rfl
    have s2 := b0.cell 2 rfl
    have s3 := b0.cell 3 rfl
    have ls := b0.lt
    have f0 := b1.cell 0 rfl
    have f1 := b1.cell 1 rfl
    have f2 := b1.cell 2 rfl
    have f3 := b1.cell 3 rfl
    have f4 := b1.cell 4 rfl
    have f5 := b1.cell 5 rfl
    have f6 := b1.cell 6 rfl
    have f7 := b1.cell 7 rfl
    have f8 := b1.cell 8 rfl
    have f9 := b1.cell 9 rfl
    have f10 := b1.cell 10 rfl
    have lf := b1.lt
    have r0 := b2.cell 0 rfl
    have r1 := b2.cell 1 rfl
    have lr := b2.lt
    have g0 := b3.cell 0 rfl
    have g1 := b3.cell 1 rfl
    have lg := b3.lt
    have HB := hide (hu)
    clear hu b0 b1 b2 b3
    refine (HC.out _ HB.out).mono ?_
    intro q1
    go_wp2_with (first | (go_at_call 69; (with_reducible refine (HN.out _).mono ?_); intro _))
    go_ret
    exact ⟨rfl, (by repeat (first | with_reducible exact HB.out | with_reducible exact Up.refl _ | apply Up.ext | apply Up.alloc | apply Up.drew | (refine Up.setCell ?_ (by simp [World.setCell]; try omega) _)))⟩
  · have hE : agreesV s o 1 v (x, y) = !fieldK (kndOf s o) (x, y) := by unfold agreesV; rw [if_pos ⟨he, hN⟩, if_neg (by omega), if_pos rfl]
    rw [hE]
    have HF := hide (fun W (hu : Up w W) => vfield0_any (hL.up hu) o he hp)
    generalize fieldK (kndOf s o) (x, y) = F at *
    generalize s.home = home at *
    clear hL he hN hE hp
    (unfold Gives; go_enter Tryz.func21, Tryz.ntmps21)
    go_wp2_with fail
    go_at_call 17
    refine forgetK (fun V => Up w V ∧ Box V w.heap.size #[.slice a n c, .int .i64 home, .slice sa sn sc, .slice ca cn cc] 28 ∧ Box V (w.heap.size + 1) (offA o) 32 ∧ Box V (w.heap.size + 1 + 1) #[.int .i64 (1), .int .i64 (v)] 34 ∧ Box V (w.heap.size + 1 + 1 + 1) #[.int .i64 (x), .int .i64 (y)] 30) ⟨(by repeat (first | with_reducible exact Up.refl _ | with_reducible apply Up.plus | apply Up.ext | apply Up.alloc | apply Up.drew | (refine Up.setCell ?_ (by simp; try omega) _))), (by repeat (first | exact Box.mk rfl | (refine Box.mk ?_; simp; done) | apply Box.ext | apply Box.drew | apply Box.alloc | apply Box.two1 | (refine Box.other ?_ (by omega) _ _))), (by repeat (first | exact Box.mk rfl | (refine Box.mk ?_; simp; done) | apply Box.ext | apply Box.drew | apply Box.alloc | apply Box.two1 | (refine Box.other ?_ (by omega) _ _))), (by repeat (first | exact Box.mk rfl | (refine Box.mk ?_; simp; done) | apply Box.ext | apply Box.drew | apply Box.alloc | apply Box.two1 | (refine Box.other ?_ (by omega) _ _))), (by repeat (first | exact Box.mk rfl | (refine Box.mk ?_; simp; done) | apply Box.ext | apply Box.drew | apply Box.alloc | apply Box.two1 | (refine Box.other ?_ (by omega) _ _)))⟩ ?_
    rintro V ⟨hu, b0, b1, b2, b3⟩
    have s0 := b0.cell 0 rfl
    have s1 := b0.cell 1 rfl
    have s2 := b0.cell 2 rfl
    have s3 := b0.cell 3 rfl
    have ls := b0.lt
    have f0 := b1.cell 0 rfl
    have f1 := b1.cell 1 rfl
    have f2 := b1.cell 2 rfl
    have f3 := b1.cell 3 rfl
    have f4 := b1.cell 4 rfl
    have f5 := b1.cell 5 rfl
    have f6 := b1.cell 6 rfl
    have f7 := b1.cell 7 rfl
    have f8 := b1.cell 8 rfl
    have f9 := b1.cell 9 rfl
    have f10 := b1.cell 10 rfl
    have lf := b1.lt
    have r0 := b2.cell 0 rfl
    have r1 := b2.cell 1 rfl
    have lr := b2.lt
    have g0 := b3.cell 0 rfl
    have g1 := b3.cell 1 rfl
    have lg := b3.lt
    have HB := hide (hu)
    clear hu b0 b1 b2 b3
    refine (HC.out _ HB.out).mono ?_
    intro q1
    go_wp2_with (first | (go_at_call 69; (with_reducible refine (HN.out _).mono ?_); intro _) | (go_at_call 70; (with_reducible refine (HF.out _ (by repeat (first | with_reducible exact HB.out | with_reducible apply Up.ext | with_reducible apply Up.alloc | with_reducible apply Up.drew))).mono ?_); intro _))
    go_ret
    exact ⟨rfl, (by repeat (first | with_reducible exact HB.out | with_reducible exact Up.refl _ | apply Up.ext | apply Up.alloc | apply Up.drew | (refine Up.setCell ?_ (by simp [World.setCell]; try omega) _)))⟩
  · obtain ⟨F, l1, l2, is, g1, g2, c1, -, A2, -, -⟩ := reads_facts (q := (x, y)) he hp
    rw [A2 v]
    have HR := hide (fun W (hu : Up w W) => vReads_any (hL.up hu) o (x, y))
    rw [g2] at HR
    have HW := hide (fun W => vbetween_any v l1 l2 W)
    generalize withinB v l1 l2 = B at *
    dsimp only at HR
    generalize s.home = home at *
    clear hL he hN hp A2 g1 g2 c1
    cases is
    · rw [Bool.false_and]
      (unfold Gives; go_enter Tryz.func21, Tryz.ntmps21)
      go_wp2_with fail
      go_at_call 17
      refine forgetK (fun V => Up w V ∧ Box V w.heap.size #[.slice a n c, .int .i64 home, .slice sa sn sc, .slice ca cn cc] 28 ∧ Box V (w.heap.size + 1) (offA o) 32 ∧ Box V (w.heap.size + 1 + 1) #[.int .i64 (2), .int .i64 (v)] 34 ∧ Box V (w.heap.size + 1 + 1 + 1) #[.int .i64 (x), .int .i64 (y)] 30) ⟨(by repeat (first | with_reducible exact Up.refl _ | with_reducible apply Up.plus | apply Up.ext | apply Up.alloc | apply Up.drew | (refine Up.setCell ?_ (by simp; try omega) _))), (by repeat (first | exact Box.mk rfl | (refine Box.mk ?_; simp; done) | apply Box.ext | apply Box.drew | apply Box.alloc | apply Box.two1 | (refine Box.other ?_ (by omega) _ _))), (by repeat (first | exact Box.mk rfl | (refine Box.mk ?_; simp; done) | apply Box.ext | apply Box.drew | apply Box.alloc | apply Box.two1 | (refine Box.other ?_ (by omega) _ _))), (by repeat (first | exact Box.mk rfl | (refine Box.mk ?_; simp; done) | apply Box.ext | apply Box.drew | apply Box.alloc | apply Box.two1 | (refine Box.other ?_ (by omega) _ _))), (by repeat (first | exact Box.mk rfl | (refine Box.mk ?_; simp; done) | apply Box.ext | apply Box.drew | apply Box.alloc | apply Box.two1 | (refine Box.other ?_ (by omega) _ _)))⟩ ?_
      rintro V ⟨hu, b0, b1, b2, b3⟩
      have s0 := b0.cell 0 rfl
      have s1 := b0.cell 1 rfl
      have s2 := b0.cell 2 rfl
      have s3 := b0.cell 3 rfl
      have ls := b0.lt
      have f0 := b1.cell 0 rfl
      have f1 := b1.cell 1 rfl
      have f2 := b1.cell 2 rfl
      have f3 := b1.cell 3 rfl
      have f4 := b1.cell 4 rfl
      have f5 := b1.cell 5 rfl
      have f6 := b1.cell 6 rfl
      have f7 := b1.cell 7 rfl
      have f8 := b1.cell 8 rfl
      have f9 := b1.cell 9 rfl
      have f10 := b1.cell 10 rfl
      have lf := b1.lt
      have r0 := b2.cell 0 rfl
      have r1 := b2.cell 1 rfl
      have lr := b2.lt
      have g0 := b3.cell 0 rfl
      have g1 := b3.cell 1 rfl
      have lg := b3.lt
      have HB := hide (hu)
      clear hu b0 b1 b2 b3
      refine (HC.out _ HB.out).mono ?_
      intro q1
      go_wp2_with (first | (go_at_call 69; (with_reducible refine (HN.out _).mono ?_); intro _) | (go_at_call 15; (with_reducible refine (HR.out _ (by repeat (first | with_reducible exact HB.out | with_reducible apply Up.ext | with_reducible apply Up.alloc | with_reducible apply Up.drew))).mono ?_); intro _))
      go_ret
      exact ⟨rfl, (by repeat (first | with_reducible exact HB.out | with_reducible exact Up.refl _ | apply Up.ext | apply Up.alloc | apply Up.drew | (refine Up.setCell ?_ (by simp [World.setCell]; try omega) _)))⟩
    · rw [Bool.true_and]
      (unfold Gives; go_enter Tryz.func21, Tryz.ntmps21)
      go_wp2_with fail
      go_at_call 17
      refine forgetK (fun V => Up w V ∧ Box V w.heap.size #[.slice a n c, .int .i64 home, .slice sa sn sc, .slice ca cn cc] 28 ∧ Box V (w.heap.size + 1) (offA o) 32 ∧ Box V (w.heap.size + 1 + 1) #[.int .i64 (2), .int .i64 (v)] 34 ∧ Box V (w.heap.size + 1 + 1 + 1) #[.int .i64 (x), .int .i64 (y)] 30) ⟨(by repeat (first | with_reducible exact Up.refl _ | with_reducible apply Up.plus | apply Up.ext | apply Up.alloc | apply Up.drew | (refine Up.setCell ?_ (by simp; try omega) _))), (by repeat (first | exact Box.mk rfl | (refine Box.mk ?_; simp; done) | apply Box.ext | apply Box.drew | apply Box.alloc | apply Box.two1 | (refine Box.other ?_ (by omega) _ _))), (by repeat (first | exact Box.mk rfl | (refine Box.mk ?_; simp; done) | apply Box.ext | apply Box.drew | apply Box.alloc | apply Box.two1 | (refine Box.other ?_ (by omega) _ _))), (by repeat (first | exact Box.mk rfl | (refine Box.mk ?_; simp; done) | apply Box.ext | apply Box.drew | apply Box.alloc | apply Box.two1 | (refine Box.other ?_ (by omega) _ _))), (by repeat (first | exact Box.mk rfl | (refine Box.mk ?_; simp; done) | apply Box.ext | apply Box.drew | apply Box.alloc | apply Box.two1 | (refine Box.other ?_ (by omega) _ _)))⟩ ?_
      rintro V ⟨hu, b0, b1, b2, b3⟩
      have s0 := b0.cell 0 rfl
      have s1 := b0.cell 1 rfl
      have s2 := b0.cell 2 rfl
      have s3 := b0.cell 3 rfl
      have ls := b0.lt
      have f0 := b1.cell 0 rfl
      have f1 := b1.cell 1 rfl
      have f2 := b1.cell 2 rfl
      have f3 := b1.cell 3 rfl
      have f4 := b1.cell 4 rfl
      have f5 := b1.cell 5 rfl
      have f6 := b1.cell 6 rfl
      have f7 := b1.cell 7 rfl
      have f8 := b1.cell 8 rfl
      have f9 := b1.cell 9 rfl
      have f10 := b1.cell 10 rfl
      have lf := b1.lt
      have r0 := b2.cell 0 rfl
      have r1 := b2.cell 1 rfl
      have lr := b2.lt
      have g0 := b3.cell 0 rfl
      have g1 := b3.cell 1 rfl
      have lg := b3.lt
      have HB := hide (hu)
      clear hu b0 b1 b2 b3
      refine (HC.out _ HB.out).mono ?_
      intro q1
      go_wp2_with (first | (go_at_call 69; (with_reducible refine (HN.out _).mono ?_); intro _) | (go_at_call 15; (with_reducible refine (HR.out _ (by repeat (first | with_reducible exact HB.out | with_reducible apply Up.ext | with_reducible apply Up.alloc | with_reducible apply Up.drew))).mono ?_); intro _) | (go_at_call 71; (with_reducible refine (HW.out _).mono ?_); intro _))
      go_ret
      exact ⟨rfl, (by repeat (first | with_reducible exact HB.out | with_reducible exact Up.refl _ | apply Up.ext | apply Up.alloc | apply Up.drew | (refine Up.setCell ?_ (by simp [World.setCell]; try omega) _)))⟩
end Go.Proofs.YtnaiaodnnmhdkaaGreat
