/- Package watch: the values of a place. Conditions: what lies in memory. -/
import Derived.Test.YtnaiaodnnmhdkaaGreatWatchK
namespace Go.Proofs.YtnaiaodnnmhdkaaGreat
set_option linter.unusedVariables false
set_option linter.unusedSimpArgs false
open Go.RowKit Go.Shelf

theorem fieldV_true {s : SkyD} {o : OffD} {p : Int × Int} (h : fieldV s o p = true) : offE s o = 0 ∧ PBd p ∧ fieldK (kndOf s o) p = true := by
  unfold fieldV at h
  simp only [Bool.and_eq_true, decide_eq_true_eq] at h
  exact ⟨h.1, (nearV_iff _ _).1 h.2.1, h.2.2⟩
theorem field_front {k : KndD} {p : Int × Int} (h : fieldK k p = true) (hs : k.sc = true) : 0 < doK k p := by
  unfold fieldK at h
  simp only [Bool.and_eq_true, Bool.or_eq_true, Bool.not_eq_true'] at h
  have := h.2.resolve_left (by simp [hs])
  unfold withinK at this
  simp only [Bool.and_eq_true, decide_eq_true_eq] at this
  exact this.1
set_option maxRecDepth 100000 in
set_option maxHeartbeats 4000000 in
theorem wReads_any {K : Nat → Prop} {w : World} {a sa ca : Option Addr} {n c sn sc cn cc : Nat} {s : SkyD} (hL : SkyL K w a n c sa sn sc ca cn cc s) (o : OffD) (p : Int × Int) : Gives Tryz.prog 14 #[.agg #[.slice a n c, .int .i64 s.home, .slice sa sn sc, .slice ca cn cc], .agg (offA o), .agg #[.int .i64 (p.1), .int .i64 (p.2)]] w (.tuple #[.agg #[.int .i64 ((readsV s o p).1.1), .int .i64 ((readsV s o p).1.2)], .bool (readsV s o p).2]) := by
  have HF := hide (fun W (hu : Up w W) => wField_any (hL.up hu) o p)
  unfold readsV
  by_cases hF : fieldV s o p = true
  rotate_left
  · rw [if_neg (by simp [hF])]
    rw [show fieldV s o p = false by simpa using hF] at HF
    generalize s.home = home at *
    clear hL hF
    obtain ⟨p1, p2⟩ := p
    dsimp only at *
    (unfold Gives; go_enter Tryz.func14, Tryz.ntmps14)
    go_wp2_with fail
    go_at_call 18
    refine forgetK (fun V => Up w V ∧ Box V w.heap.size #[.slice a n c, .int .i64 home, .slice sa sn sc, .slice ca cn cc] 28 ∧ Box V (w.heap.size + 1) (offA o) 32 ∧ Box V (w.heap.size + 1 + 1) #[.int .i64 (p1), .int .i64 (p2)] 30 ∧ Box V (w.heap.size + 1 + 1 + 1) #[.int .i64 (0), .int .i64 (0)] 38) ⟨(by repeat (first | with_reducible exact Up.refl _ | with_reducible apply Up.plus | apply Up.ext | apply Up.alloc | apply Up.drew | (refine Up.setCell ?_ (by simp; try omega) _))), (by repeat (first | exact Box.mk rfl | (refine Box.mk ?_; simp; done) | apply Box.ext | apply Box.drew | apply Box.alloc | apply Box.two1 | (refine Box.other ?_ (by omega) _ _))), (by repeat (first | exact Box.mk rfl | (refine Box.mk ?_; simp; done) | apply Box.ext | apply Box.drew | apply Box.alloc | apply Box.two1 | (refine Box.other ?_ (by omega) _ _))), (by repeat (first | exact Box.mk rfl | (refine Box.mk ?_; simp; done) | apply Box.ext | apply Box.drew | apply Box.alloc | apply Box.two1 | (refine Box.other ?_ (by omega) _ _))), (by repeat (first | exact Box.mk rfl | (refine Box.mk ?_; simp; done) | apply Box.ext | apply Box.drew | apply Box.alloc | apply Box.two1 | (refine Box.other ?_ (by omega) _ _)))⟩ ?_
    rintro V ⟨hu, bs, bo, bp, bz⟩
    have HB := hide (And.intro hu (And.intro bs (And.intro bo (And.intro bp bz))))
    clear hu bs bo bp bz
    refine (HF.out _ HB.out.1).mono ?_
    intro pf
    have s0 := (HB.out.2.1).cell 0 rfl
    have s1 := (HB.out.2.1).cell 1 rfl
    have s2 := (HB.out.2.1).cell 2 rfl
    have s3 := (HB.out.2.1).cell 3 rfl
    have ls := (HB.out.2.1).lt
    have f0 := (HB.out.2.2.1).cell 0 rfl
    have f1 := (HB.out.2.2.1).cell 1 rfl
    have f2 := (HB.out.2.2.1).cell 2 rfl
    have f3 := (HB.out.2.2.1).cell 3 rfl
    have f4 := (HB.out.2.2.1).cell 4 rfl
    have f5 := (HB.out.2.2.1).cell 5 rfl
    have f6 := (HB.out.2.2.1).cell 6 rfl
    have f7 := (HB.out.2.2.1).cell 7 rfl
    have f8 := (HB.out.2.2.1).cell 8 rfl
    have f9 := (HB.out.2.2.1).cell 9 rfl
    have f10 := (HB.out.2.2.1).cell 10 rfl
    have lf := (HB.out.2.2.1).lt
    have g0 := (HB.out.2.2.2.1).cell 0 rfl
    have g1 := (HB.out.2.2.2.1).cell 1 rfl
    have lg := (HB.out.2.2.2.1).lt
    have z0 := (HB.out.2.2.2.2).cell 0 rfl
    have z1 := (HB.out.2.2.2.2).cell 1 rfl
    have lz := (HB.out.2.2.2.2).lt
    have fz0 := (HB.out.2.2.2.2).frozen 0
    have fz1 := (HB.out.2.2.2.2).frozen 1
    go_wp2_with fail
    refine forgetW (fun WF => Up w WF ∧ Box WF (w.heap.size + 1 + 1 + 1) #[.int .i64 (0), .int .i64 (0)] 38) ⟨(by repeat (first | with_reducible exact HB.out.1 | with_reducible exact Up.refl _ | with_reducible apply Up.ext | with_reducible apply Up.alloc | with_reducible apply Up.drew | (with_reducible refine Up.setCell ?_ (by simp only; omega) _))), ?_⟩ ?_
    · exact (by (repeat (first | with_reducible apply Box.ext | with_reducible apply Box.alloc | with_reducible apply Box.drew)); exact ((HB.out.2.2.2.2.set 0 (.int .i64 0)).set 1 (.int .i64 0)))
    rintro WF ⟨huF, hbF⟩
    have w0 := hbF.cell 0 rfl
    have w1 := hbF.cell 1 rfl
    (refine bodyPost_give huF rfl ⟨_, (by simp [results, Tryz.results14, go_sem, w0, w1]; rfl), ?_⟩)
    rfl
  rw [hF] at HF
  obtain ⟨he, hpb, hfk⟩ := fieldV_true hF
  have HO := hide (fun W (hu : Up w W) => wof_any (hL.up hu).b hL.h (hL.up hu).st (hL.up hu).ca he)
  have hk := kbd_of he
  simp only [hF, true_and]
  generalize kndOf s o = k at *
  unfold kndV at HO
  cases hs : k.sc
  · rw [if_neg (by simp [hs])] at HO
    have HR := hide (fun W => wrreads_any hk hpb hs W)
    have hm := fun (n : Nat) (w : World) => (meth_r k n w).2.2.2
    simp only [mReads, theName] at hm
    generalize readsK k p = R at *
    obtain ⟨R1, R2⟩ := R
    generalize s.home = home at *
    clear hL he hk hpb hfk hs hF
    obtain ⟨p1, p2⟩ := p
    dsimp only at *
    have key : ∀ (b : Bool), decide (R2 < R1) = b → Gives Tryz.prog 14 #[.agg #[.slice a n c, .int .i64 home, .slice sa sn sc, .slice ca cn cc], .agg (offA o), .agg #[.int .i64 (p1), .int .i64 (p2)]] w (if b = true then (.tuple #[.agg #[.int .i64 (0), .int .i64 (0)], .bool false]) else (.tuple #[.agg #[.int .i64 (R1), .int .i64 (R2)], .bool true])) := fun b hb => by
      cases b
      all_goals
        (unfold Gives; go_enter Tryz.func14, Tryz.ntmps14)
        go_wp2_with fail
        go_at_call 18
        refine forgetK (fun V => Up w V ∧ Box V w.heap.size #[.slice a n c, .int .i64 home, .slice sa sn sc, .slice ca cn cc] 28 ∧ Box V (w.heap.size + 1) (offA o) 32 ∧ Box V (w.heap.size + 1 + 1) #[.int .i64 (p1), .int .i64 (p2)] 30 ∧ Box V (w.heap.size + 1 + 1 + 1) #[.int .i64 (0), .int .i64 (0)] 38) ⟨(by repeat (first | with_reducible exact Up.refl _ | with_reducible apply Up.plus | apply Up.ext | apply Up.alloc | apply Up.drew | (refine Up.setCell ?_ (by simp; try omega) _))), (by repeat (first | exact Box.mk rfl | (refine Box.mk ?_; simp; done) | apply Box.ext | apply Box.drew | apply Box.alloc | apply Box.two1 | (refine Box.other ?_ (by omega) _ _))), (by repeat (first | exact Box.mk rfl | (refine Box.mk ?_; simp; done) | apply Box.ext | apply Box.drew | apply Box.alloc | apply Box.two1 | (refine Box.other ?_ (by omega) _ _))), (by repeat (first | exact Box.mk rfl | (refine Box.mk ?_; simp; done) | apply Box.ext | apply Box.drew | apply Box.alloc | apply Box.two1 | (refine Box.other ?_ (by omega) _ _))), (by repeat (first | exact Box.mk rfl | (refine Box.mk ?_; simp; done) | apply Box.ext | apply Box.drew | apply Box.alloc | apply Box.two1 | (refine Box.other ?_ (by omega) _ _)))⟩ ?_
        rintro V ⟨hu, bs, bo, bp, bz⟩
        have HB := hide (And.intro hu (And.intro bs (And.intro bo (And.intro bp bz))))
        clear hu bs bo bp bz
        refine (HF.out _ HB.out.1).mono ?_
        intro pf
        have s0 := (HB.out.2.1).cell 0 rfl
        have s1 := (HB.out.2.1).cell 1 rfl
        have s2 := (HB.out.2.1).cell 2 rfl
        have s3 := (HB.out.2.1).cell 3 rfl
        have ls := (HB.out.2.1).lt
        have f0 := (HB.out.2.2.1).cell 0 rfl
        have f1 := (HB.out.2.2.1).cell 1 rfl
        have f2 := (HB.out.2.2.1).cell 2 rfl
        have f3 := (HB.out.2.2.1).cell 3 rfl
        have f4 := (HB.out.2.2.1).cell 4 rfl
        have f5 := (HB.out.2.2.1).cell 5 rfl
        have f6 := (HB.out.2.2.1).cell 6 rfl
        have f7 := (HB.out.2.2.1).cell 7 rfl
        have f8 := (HB.out.2.2.1).cell 8 rfl
        have f9 := (HB.out.2.2.1).cell 9 rfl
        have f10 := (HB.out.2.2.1).cell 10 rfl
        have lf := (HB.out.2.2.1).lt
        have g0 := (HB.out.2.2.2.1).cell 0 rfl
        have g1 := (HB.out.2.2.2.1).cell 1 rfl
        have lg := (HB.out.2.2.2.1).lt
        have z0 := (HB.out.2.2.2.2).cell 0 rfl
        have z1 := (HB.out.2.2.2.2).cell 1 rfl
        have lz := (HB.out.2.2.2.2).lt
        have fz0 := (HB.out.2.2.2.2).frozen 0
        have fz1 := (HB.out.2.2.2.2).frozen 1
        go_wp2_with fail
        refine forgetW (fun V => Up w V ∧ Box V w.heap.size #[.slice a n c, .int .i64 home, .slice sa sn sc, .slice ca cn cc] 28 ∧ Box V (w.heap.size + 1) (offA o) 32 ∧ Box V (w.heap.size + 1 + 1) #[.int .i64 (p1), .int .i64 (p2)] 30 ∧ Box V (w.heap.size + 1 + 1 + 1) #[.int .i64 (0), .int .i64 (0)] 38) ⟨(by repeat (first | with_reducible exact HB.out.1 | with_reducible exact Up.refl _ | with_reducible apply Up.ext | with_reducible apply Up.alloc | with_reducible apply Up.drew | (with_reducible refine Up.setCell ?_ (by simp only; omega) _))), (by repeat (first | with_reducible exact HB.out.2.1 | with_reducible apply Box.ext | with_reducible apply Box.alloc | with_reducible apply Box.drew | (with_reducible refine Box.other ?_ (by omega) _ _))), (by repeat (first | with_reducible exact HB.out.2.2.1 | with_reducible apply Box.ext | with_reducible apply Box.alloc | with_reducible apply Box.drew | (with_reducible refine Box.other ?_ (by omega) _ _))), (by repeat (first | with_reducible exact HB.out.2.2.2.1 | with_reducible apply Box.ext | with_reducible apply Box.alloc | with_reducible apply Box.drew | (with_reducible refine Box.other ?_ (by omega) _ _))), (by repeat (first | with_reducible exact HB.out.2.2.2.2 | with_reducible apply Box.ext | with_reducible apply Box.alloc | with_reducible apply Box.drew | (with_reducible refine Box.other ?_ (by omega) _ _)))⟩ ?_
        clear HB s0 s1 s2 s3 ls f0 f1 f2 f3 f4 f5 f6 f7 f8 f9 f10 lf g0 g1 lg z0 z1 lz fz0 fz1
        rintro V ⟨hu, bs, bo, bp, bz⟩
        have HB := hide (And.intro hu (And.intro bs (And.intro bo (And.intro bp bz))))
        clear hu bs bo bp bz
        have s0 := (HB.out.2.1).cell 0 rfl
        have s1 := (HB.out.2.1).cell 1 rfl
        have s2 := (HB.out.2.1).cell 2 rfl
        have s3 := (HB.out.2.1).cell 3 rfl
        have ls := (HB.out.2.1).lt
        have f0 := (HB.out.2.2.1).cell 0 rfl
        have f1 := (HB.out.2.2.1).cell 1 rfl
        have f2 := (HB.out.2.2.1).cell 2 rfl
        have f3 := (HB.out.2.2.1).cell 3 rfl
        have f4 := (HB.out.2.2.1).cell 4 rfl
        have f5 := (HB.out.2.2.1).cell 5 rfl
        have f6 := (HB.out.2.2.1).cell 6 rfl
        have f7 := (HB.out.2.2.1).cell 7 rfl
        have f8 := (HB.out.2.2.1).cell 8 rfl
        have f9 := (HB.out.2.2.1).cell 9 rfl
        have f10 := (HB.out.2.2.1).cell 10 rfl
        have lf := (HB.out.2.2.1).lt
        have g0 := (HB.out.2.2.2.1).cell 0 rfl
        have g1 := (HB.out.2.2.2.1).cell 1 rfl
        have lg := (HB.out.2.2.2.1).lt
        have z0 := (HB.out.2.2.2.2).cell 0 rfl
        have z1 := (HB.out.2.2.2.2).cell 1 rfl
        have lz := (HB.out.2.2.2.2).lt
        have fz0 := (HB.out.2.2.2.2).frozen 0
        have fz1 := (HB.out.2.2.2.2).frozen 1
        refine wp_region_float (al := [(5, 8, #[.int .i64 (0), .int .i64 (0)], 38)]) (mv := fun _ => false) [6] [0, 1, 2, 3, 4] (by kernel_rfl) (by kernel_rfl) (makes1 ⟨_, rfl, rfl, fun _ => rfl, fun _ _ => by simp [go_sem]⟩) (cls_ext _) (by first | exact drew_in2 _ _ | exact drew_in _) (Nat.le_refl _) ?_
        simp only [withOps, List.filterMap_cons, List.filterMap_nil, List.getElem?_toArray, List.getElem?_cons_zero, List.getElem?_cons_succ, Option.map_some]
        (repeat (first | (apply walkF_pure (base := fun p : Ext => ext _ p) rfl rfl rfl (by kernel_rfl); · (intro px K hK; go_big_quiet_op; first | exact hK | (apply Exists.intro; refine ⟨fun _ => ?_, ?_⟩; (· ((first | (go_at_call 58; with_reducible exact Gives.inFloat (HO.out _ (Up.ext HB.out.1 _))) | (go_at_call 311; with_reducible exact Gives.inFloat (HR.out _))))); exact hK))) | (apply walkF_skip rfl; simp only [Act.put, List.setIfInBounds_toArray, List.set_cons_zero, List.set_cons_succ])))
        refine walkF_nil (end1 (fun Q U hq hU bq => ?_))
        simp only [Act.put, List.setIfInBounds_toArray, List.set_cons_zero, List.set_cons_succ]
        (try simp only [List.filterMap_cons, List.filterMap_nil, List.getElem?_toArray, List.getElem?_cons_zero, List.getElem?_cons_succ])
        have hU1 : Up V U := hU
        have HQ := hide (And.intro (HB.out.1.trans hU1) (And.intro (HB.out.2.2.2.2.up hU1) bq))
        have hlz := HB.out.2.2.2.2.lt
        clear s0 s1 s2 s3 ls f0 f1 f2 f3 f4 f5 f6 f7 f8 f9 f10 lf g0 g1 lg z0 z1 lz fz0 fz1
        have q0 := bq.cell 0 rfl
        have q1 := bq.cell 1 rfl
        have lq := bq.lt
        have fq0 := bq.frozen 0
        have fq1 := bq.frozen 1
        have z0 := HQ.out.2.1.cell 0 rfl
        have z1 := HQ.out.2.1.cell 1 rfl
        have lz := HQ.out.2.1.lt
        have fz0 := HQ.out.2.1.frozen 0
        have fz1 := HQ.out.2.1.frozen 1
        have hwQ : w.heap.size ≤ Q := by omega
        have n1 : w.heap.size + 1 + 1 + 1 ≠ Q := by omega
        have n2 : Q ≠ w.heap.size + 1 + 1 + 1 := by omega
        clear hU hU1 bq HB
        go_wp2_with fail
      · refine forgetW (fun WF => Up w WF ∧ Box WF (w.heap.size + 1 + 1 + 1) #[.int .i64 (R1), .int .i64 (R2)] 38) ⟨(by repeat (first | with_reducible exact HQ.out.1 | with_reducible exact Up.refl _ | with_reducible apply Up.ext | with_reducible apply Up.alloc | with_reducible apply Up.drew | (with_reducible refine Up.setCell ?_ (by simp only; omega) _))), ?_⟩ ?_
        · exact (by (repeat (first | with_reducible apply Box.ext | with_reducible apply Box.alloc | with_reducible apply Box.drew)); exact ((((HQ.out.2.1.other (b' := Q) n1 0 (.int .i64 R1)).other (b' := Q) n1 1 (.int .i64 R2)).set 0 (.int .i64 R1)).set 1 (.int .i64 R2)))
        rintro WF ⟨huF, hbF⟩
        have w0 := hbF.cell 0 rfl
        have w1 := hbF.cell 1 rfl
        (refine bodyPost_give huF rfl ⟨_, (by simp [results, Tryz.results14, go_sem, w0, w1]; rfl), ?_⟩)
        rfl
      · refine forgetW (fun WF => Up w WF ∧ Box WF (w.heap.size + 1 + 1 + 1) #[.int .i64 (0), .int .i64 (0)] 38) ⟨(by repeat (first | with_reducible exact HQ.out.1 | with_reducible exact Up.refl _ | with_reducible apply Up.ext | with_reducible apply Up.alloc | with_reducible apply Up.drew | (with_reducible refine Up.setCell ?_ (by simp only; omega) _))), ?_⟩ ?_
        · exact (by (repeat (first | with_reducible apply Box.ext | with_reducible apply Box.alloc | with_reducible apply Box.drew)); exact ((((HQ.out.2.1.other (b' := Q) n1 0 (.int .i64 R1)).other (b' := Q) n1 1 (.int .i64 R2)).set 0 (.int .i64 0)).set 1 (.int .i64 0)))
        rintro WF ⟨huF, hbF⟩
        have w0 := hbF.cell 0 rfl
        have w1 := hbF.cell 1 rfl
        (refine bodyPost_give huF rfl ⟨_, (by simp [results, Tryz.results14, go_sem, w0, w1]; rfl), ?_⟩)
        rfl
    by_cases hle : R1 ≤ R2
    · rw [if_pos hle]; exact key false (by simpa using hle)
    · rw [if_neg hle]; exact key true (by simpa using hle)
  · rw [if_pos (by simp [hs])] at HO
    have HR := hide (fun W => wsreads_any hk hpb hs (field_front hfk hs) W)
    have hm := fun (n : Nat) (w : World) => (meth_s k n w).2.2.2
    simp only [mReads, theName] at hm
    generalize readsK k p = R at *
    obtain ⟨R1, R2⟩ := R
    generalize s.home = home at *
    clear hL he hk hpb hfk hs hF
    obtain ⟨p1, p2⟩ := p
    dsimp only at *
    have key : ∀ (b : Bool), decide (R2 < R1) = b → Gives Tryz.prog 14 #[.agg #[.slice a n c, .int .i64 home, .slice sa sn sc, .slice ca cn cc], .agg (offA o), .agg #[.int .i64 (p1), .int .i64 (p2)]] w (if b = true then (.tuple #[.agg #[.int .i64 (0), .int .i64 (0)], .bool false]) else (.tuple #[.agg #[.int .i64 (R1), .int .i64 (R2)], .bool true])) := fun b hb => by
      cases b
      all_goals
        (unfold Gives; go_enter Tryz.func14, Tryz.ntmps14)
        go_wp2_with fail
        go_at_call 18
        refine forgetK (fun V => Up w V ∧ Box V w.heap.size #[.slice a n c, .int .i64 home, .slice sa sn sc, .slice ca cn cc] 28 ∧ Box V (w.heap.size + 1) (offA o) 32 ∧ Box V (w.heap.size + 1 + 1) #[.int .i64 (p1), .int .i64 (p2)] 30 ∧ Box V (w.heap.size + 1 + 1 + 1) #[.int .i64 (0), .int .i64 (0)] 38) ⟨(by repeat (first | with_reducible exact Up.refl _ | with_reducible apply Up.plus | apply Up.ext | apply Up.alloc | apply Up.drew | (refine Up.setCell ?_ (by simp; try omega) _))), (by repeat (first | exact Box.mk rfl | (refine Box.mk ?_; simp; done) | apply Box.ext | apply Box.drew | apply Box.alloc | apply Box.two1 | (refine Box.other ?_ (by omega) _ _))), (by repeat (first | exact Box.mk rfl | (refine Box.mk ?_; simp; done) | apply Box.ext | apply Box.drew | apply Box.alloc | apply Box.two1 | (refine Box.other ?_ (by omega) _ _))), (by repeat (first | exact Box.mk rfl | (refine Box.mk ?_; simp; done) | apply Box.ext | apply Box.drew | apply Box.alloc | apply Box.two1 | (refine Box.other ?_ (by omega) _ _))), (by repeat (first | exact Box.mk rfl | (refine Box.mk ?_; simp; done) | apply Box.ext | apply Box.drew | apply Box.alloc | apply Box.two1 | (refine Box.other ?_ (by omega) _ _)))⟩ ?_
        rintro V ⟨hu, bs, bo, bp, bz⟩
        have HB := hide (And.intro hu (And.intro bs (And.intro bo (And.intro bp bz))))
        clear hu bs bo bp bz
        refine (HF.out _ HB.out.1).mono ?_
        intro pf
        have s0 := (HB.out.2.1).cell 0 rfl
        have s1 := (HB.out.2.1).cell 1 rfl
        have s2 := (HB.out.2.1).cell 2 rfl
        have s3 := (HB.out.2.1).cell 3 rfl
        have ls := (HB.out.2.1).lt
        have f0 := (HB.out.2.2.1).cell 0 rfl
        have f1 := (HB.out.2.2.1).cell 1 rfl
        have f2 := (HB.out.2.2.1).cell 2 rfl
        have f3 := (HB.out.2.2.1).cell 3 rfl
        have f4 := (HB.out.2.2.1).cell 4 rfl
        have f5 := (HB.out.2.2.1).cell 5 rfl
        have f6 := (HB.out.2.2.1).cell 6 rfl
        have f7 := (HB.out.2.2.1).cell 7 rfl
        have f8 := (HB.out.2.2.1).cell 8 rfl
        have f9 := (HB.out.2.2.1).cell 9 rfl
        have f10 := (HB.out.2.2.1).cell 10 rfl
        have lf := (HB.out.2.2.1).lt
        have g0 := (HB.out.2.2.2.1).cell 0 rfl
        have g1 := (HB.out.2.2.2.1).cell 1 rfl
        have lg := (HB.out.2.2.2.1).lt
        have z0 := (HB.out.2.2.2.2).cell 0 rfl
        have z1 := (HB.out.2.2.2.2).cell 1 rfl
        have lz := (HB.out.2.2.2.2).lt
        have fz0 := (HB.out.2.2.2.2).frozen 0
        have fz1 := (HB.out.2.2.2.2).frozen 1
        go_wp2_with fail
        refine forgetW (fun V => Up w V ∧ Box V w.heap.size #[.slice a n c, .int .i64 home, .slice sa sn sc, .slice ca cn cc] 28 ∧ Box V (w.heap.size + 1) (offA o) 32 ∧ Box V (w.heap.size + 1 + 1) #[.int .i64 (p1), .int .i64 (p2)] 30 ∧ Box V (w.heap.size + 1 + 1 + 1) #[.int .i64 (0), .int .i64 (0)] 38) ⟨(by repeat (first | with_reducible exact HB.out.1 | with_reducible exact Up.refl _ | with_reducible apply Up.ext | with_reducible apply Up.alloc | with_reducible apply Up.drew | (with_reducible refine Up.setCell ?_ (by simp only; omega) _))), (by repeat (first | with_reducible exact HB.out.2.1 | with_reducible apply Box.ext | with_reducible apply Box.alloc | with_reducible apply Box.drew | (with_reducible refine Box.other ?_ (by omega) _ _))), (by repeat (first | with_reducible exact HB.out.2.2.1 | with_reducible apply Box.ext | with_reducible apply Box.alloc | with_reducible apply Box.drew | (with_reducible refine Box.other ?_ (by omega) _ _))), (by repeat (first | with_reducible exact HB.out.2.2.2.1 | with_reducible apply Box.ext | with_reducible apply Box.alloc | with_reducible apply Box.drew | (with_reducible refine Box.other ?_ (by omega) _ _))), (by repeat (first | with_reducible exact HB.out.2.2.2.2 | with_reducible apply Box.ext | with_reducible apply Box.alloc | with_reducible apply Box.drew | (with_reducible refine Box.other ?_ (by omega) _ _)))⟩ ?_
        clear HB s0 s1 s2 s3 ls f0 f1 f2 f3 f4 f5 f6 f7 f8 f9 f10 lf g0 g1 lg z0 z1 lz fz0 fz1
        rintro V ⟨hu, bs, bo, bp, bz⟩
        have HB := hide (And.intro hu (And.intro bs (And.intro bo (And.intro bp bz))))
        clear hu bs bo bp bz
        have s0 := (HB.out.2.1).cell 0 rfl
        have s1 := (HB.out.2.1).cell 1 rfl
        have s2 := (HB.out.2.1).cell 2 rfl
        have s3 := (HB.out.2.1).cell 3 rfl
        have ls := (HB.out.2.1).lt
        have f0 := (HB.out.2.2.1).cell 0 rfl
        have f1 := (HB.out.2.2.1).cell 1 rfl
        have f2 := (HB.out.2.2.1).cell 2 rfl
        have f3 := (HB.out.2.2.1).cell 3 rfl
        have f4 := (HB.out.2.2.1).cell 4 rfl
        have f5 := (HB.out.2.2.1).cell 5 rfl
        have f6 := (HB.out.2.2.1).cell 6 rfl
        have f7 := (HB.out.2.2.1).cell 7 rfl
        have f8 := (HB.out.2.2.1).cell 8 rfl
        have f9 := (HB.out.2.2.1).cell 9 rfl
        have f10 := (HB.out.2.2.1).cell 10 rfl
        have lf := (HB.out.2.2.1).lt
        have g0 := (HB.out.2.2.2.1).cell 0 rfl
        have g1 := (HB.out.2.2.2.1).cell 1 rfl
        have lg := (HB.out.2.2.2.1).lt
        have z0 := (HB.out.2.2.2.2).cell 0 rfl
        have z1 := (HB.out.2.2.2.2).cell 1 rfl
        have lz := (HB.out.2.2.2.2).lt
        have fz0 := (HB.out.2.2.2.2).frozen 0
        have fz1 := (HB.out.2.2.2.2).frozen 1
        refine wp_region_float (al := [(5, 8, #[.int .i64 (0), .int .i64 (0)], 38)]) (mv := fun _ => false) [6] [0, 1, 2, 3, 4] (by kernel_rfl) (by kernel_rfl) (makes1 ⟨_, rfl, rfl, fun _ => rfl, fun _ _ => by simp [go_sem]⟩) (cls_ext _) (by first | exact drew_in2 _ _ | exact drew_in _) (Nat.le_refl _) ?_
        simp only [withOps, List.filterMap_cons, List.filterMap_nil, List.getElem?_toArray, List.getElem?_cons_zero, List.getElem?_cons_succ, Option.map_some]
        (repeat (first | (apply walkF_pure (base := fun p : Ext => ext _ p) rfl rfl rfl (by kernel_rfl); · (intro px K hK; go_big_quiet_op; first | exact hK | (apply Exists.intro; refine ⟨fun _ => ?_, ?_⟩; (· ((first | (go_at_call 58; with_reducible exact Gives.inFloat (HO.out _ (Up.ext HB.out.1 _))) | (go_at_call 317; with_reducible exact Gives.inFloat (HR.out _))))); exact hK))) | (apply walkF_skip rfl; simp only [Act.put, List.setIfInBounds_toArray, List.set_cons_zero, List.set_cons_succ])))
        refine walkF_nil (end1 (fun Q U hq hU bq => ?_))
        simp only [Act.put, List.setIfInBounds_toArray, List.set_cons_zero, List.set_cons_succ]
        (try simp only [List.filterMap_cons, List.filterMap_nil, List.getElem?_toArray, List.getElem?_cons_zero, List.getElem?_cons_succ])
        have hU1 : Up V U := hU
        have HQ := hide (And.intro (HB.out.1.trans hU1) (And.intro (HB.out.2.2.2.2.up hU1) bq))
        have hlz := HB.out.2.2.2.2.lt
        clear s0 s1 s2 s3 ls f0 f1 f2 f3 f4 f5 f6 f7 f8 f9 f10 lf g0 g1 lg z0 z1 lz fz0 fz1
        have q0 := bq.cell 0 rfl
        have q1 := bq.cell 1 rfl
        have lq := bq.lt
        have fq0 := bq.frozen 0
        have fq1 := bq.frozen 1
        have z0 := HQ.out.2.1.cell 0 rfl
        have z1 := HQ.out.2.1.cell 1 rfl
        have lz := HQ.out.2.1.lt
        have fz0 := HQ.out.2.1.frozen 0
        have fz1 := HQ.out.2.1.frozen 1
        have hwQ : w.heap.size ≤ Q := by omega
        have n1 : w.heap.size + 1 + 1 + 1 ≠ Q := by omega
        have n2 : Q ≠ w.heap.size + 1 + 1 + 1 := by omega
        clear hU hU1 bq HB
        go_wp2_with fail
      · refine forgetW (fun WF => Up w WF ∧ Box WF (w.heap.size + 1 + 1 + 1) #[.int .i64 (R1), .int .i64 (R2)] 38) ⟨(by repeat (first | with_reducible exact HQ.out.1 | with_reducible exact Up.refl _ | with_reducible apply Up.ext | with_reducible apply Up.alloc | with_reducible apply Up.drew | (with_reducible refine Up.setCell ?_ (by simp only; omega) _))), ?_⟩ ?_
        · exact (by (repeat (first | with_reducible apply Box.ext | with_reducible apply Box.alloc | with_reducible apply Box.drew)); exact ((((HQ.out.2.1.other (b' := Q) n1 0 (.int .i64 R1)).other (b' := Q) n1 1 (.int .i64 R2)).set 0 (.int .i64 R1)).set 1 (.int .i64 R2)))
        rintro WF ⟨huF, hbF⟩
        have w0 := hbF.cell 0 rfl
        have w1 := hbF.cell 1 rfl
        (refine bodyPost_give huF rfl ⟨_, (by simp [results, Tryz.results14, go_sem, w0, w1]; rfl), ?_⟩)
        rfl
      · refine forgetW (fun WF => Up w WF ∧ Box WF (w.heap.size + 1 + 1 + 1) #[.int .i64 (0), .int .i64 (0)] 38) ⟨(by repeat (first | with_reducible exact HQ.out.1 | with_reducible exact Up.refl _ | with_reducible apply Up.ext | with_reducible apply Up.alloc | with_reducible apply Up.drew | (with_reducible refine Up.setCell ?_ (by simp only; omega) _))), ?_⟩ ?_
        · exact (by (repeat (first | with_reducible apply Box.ext | with_reducible apply Box.alloc | with_reducible apply Box.drew)); exact ((((HQ.out.2.1.other (b' := Q) n1 0 (.int .i64 R1)).other (b' := Q) n1 1 (.int .i64 R2)).set 0 (.int .i64 0)).set 1 (.int .i64 0)))
        rintro WF ⟨huF, hbF⟩
        have w0 := hbF.cell 0 rfl
        have w1 := hbF.cell 1 rfl
        (refine bodyPost_give huF rfl ⟨_, (by simp [results, Tryz.results14, go_sem, w0, w1]; rfl), ?_⟩)
        rfl
    by_cases hle : R1 ≤ R2
    · rw [if_pos hle]; exact key false (by simpa using hle)
    · rw [if_neg hle]; exact key true (by simpa using hle)
end Go.Proofs.YtnaiaodnnmhdkaaGreat
