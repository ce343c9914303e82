/- Reference bolideref06: corners, the nearest place of an area; which areas are valid. Conditions: a valid offer, bounds. -/
import Derived.Test.YtnaiaodnnmhdkaaGreatVC
import Derived.Test.YtnaiaodnnmhdkaaGreatWatchF
namespace Go.Proofs.YtnaiaodnnmhdkaaGreat
set_option linter.unusedVariables false
set_option linter.unusedSimpArgs false
open Go.RowKit Go.Shelf

def Corn (x0 x1 y0 y1 : Int) (w : World) (e : Ending) (W' : World) : Prop := ∃ (g : Nat) (p : Ext), e = .returned (.slice (some ⟨g, 0, none⟩) 4 4) ∧ w.heap.size ≤ g ∧ Box W' g #[.int .i64 (x0), .int .i64 (y0), .int .i64 (x0), .int .i64 (y1), .int .i64 (x1), .int .i64 (y0), .int .i64 (x1), .int .i64 (y1)] 30 ∧ W' = ext w p
set_option maxRecDepth 100000 in
theorem vcorners_any (x0 x1 y0 y1 : Int) (w : World) : Calls Tryz.prog 131 #[.agg #[.int .i64 (x0), .int .i64 (x1), .int .i64 (y0), .int .i64 (y1)]] w (Corn x0 x1 y0 y1 w) := by
  go_enter Tryz.func131, Tryz.ntmps131
  go_wp2
  refine forgetW (fun W => Up w W ∧ Box W (w.heap.size + 1) #[.int .i64 (x0), .int .i64 (y0), .int .i64 (x0), .int .i64 (y1), .int .i64 (x1), .int .i64 (y0), .int .i64 (x1), .int .i64 (y1)] 30) ⟨(by repeat (first | with_reducible exact Up.refl _ | with_reducible apply Up.plus | apply Up.ext | apply Up.alloc | apply Up.drew | (refine Up.setCell ?_ (by simp; try omega) _))), (by repeat (first | exact Box.mk rfl | (refine Box.mk ?_; simp; done) | apply Box.ext | apply Box.drew | apply Box.alloc | apply Box.two1 | (refine Box.other ?_ (by omega) _ _)))⟩ ?_
  rintro W ⟨⟨p, hp⟩, b⟩
  exact bodyPost_ret (v := .slice (some ⟨w.heap.size + 1, 0, none⟩) 4 4) (by simp [results, Tryz.results131, go_sem]) rfl ⟨_, p, rfl, by omega, b, hp⟩
set_option maxRecDepth 100000 in
set_option maxHeartbeats 1000000 in
theorem vcheckarea_any (a : Ar4) (w : World) : Gives Tryz.prog 74 #[.agg #[.int .i64 (a.1), .int .i64 (a.2.1), .int .i64 (a.2.2.1), .int .i64 (a.2.2.2)]] w (.bool (areaB a)) := by
  obtain ⟨x0, x1, y0, y1⟩ := a
  unfold areaB
  dsimp only
  have H1 := hide (fun W => snear_any x0 y0 W)
  have H2 := hide (fun W => snear_any x1 y1 W)
  generalize nearV 33554432 (x0, y0) = A at *
  generalize nearV 33554432 (x1, y1) = B at *
  by_cases h1 : x0 ≤ x1
  · rw [decide_eq_true h1, Bool.true_and]
    have d1 : decide (x0 ≤ x1) = true := decide_eq_true h1
    by_cases h2 : y0 ≤ y1
    · rw [decide_eq_true h2, Bool.true_and]
      have d2 : decide (y0 ≤ y1) = true := decide_eq_true h2
      cases A
      · (unfold Gives; go_enter Tryz.func74, Tryz.ntmps74)
        go_wp2_with (first | (go_at_call 69; (with_reducible refine (H1.out _).mono ?_); intro _) | (go_at_call 69; (with_reducible refine (H2.out _).mono ?_); intro _))
        go_ret
        exact ⟨rfl, (by repeat (first | with_reducible exact Up.refl _ | with_reducible apply Up.plus | apply Up.ext | apply Up.alloc | apply Up.drew | (refine Up.setCell ?_ (by simp; try omega) _)))⟩
      · (unfold Gives; go_enter Tryz.func74, Tryz.ntmps74)
        go_wp2_with (first | (go_at_call 69; (with_reducible refine (H1.out _).mono ?_); intro _) | (go_at_call 69; (with_reducible refine (H2.out _).mono ?_); intro _))
        go_ret
        exact ⟨ret_bool (by simp), (by repeat (first | with_reducible exact Up.refl _ | with_reducible apply Up.plus | apply Up.ext | apply Up.alloc | apply Up.drew | (refine Up.setCell ?_ (by simp; try omega) _)))⟩
    · rw [decide_eq_false h2, Bool.false_and]
      have d2 : decide (y0 ≤ y1) = false := decide_eq_false h2
      (unfold Gives; go_enter Tryz.func74, Tryz.ntmps74)
      go_wp2
      go_ret
      exact ⟨rfl, (by repeat (first | with_reducible exact Up.refl _ | with_reducible apply Up.plus | apply Up.ext | apply Up.alloc | apply Up.drew | (refine Up.setCell ?_ (by simp; try omega) _)))⟩
  · rw [decide_eq_false h1, Bool.false_and]
    have d1 : decide (x0 ≤ x1) = false := decide_eq_false h1
    (unfold Gives; go_enter Tryz.func74, Tryz.ntmps74)
    go_wp2
    go_ret
    exact ⟨rfl, (by repeat (first | with_reducible exact Up.refl _ | with_reducible apply Up.plus | apply Up.ext | apply Up.alloc | apply Up.drew | (refine Up.setCell ?_ (by simp; try omega) _)))⟩
set_option maxRecDepth 100000 in
set_option maxHeartbeats 4000000 in
theorem vnearest_any {K : Nat → Prop} {w : World} {a sa ca : Option Addr} {n c sn sc cn cc : Nat} {s : SkyD} (hL : SkyL K w a n c sa sn sc ca cn cc s) (o : OffD) (he : offE s o = 0) {x0 x1 y0 y1 : Int} (ha : ABd (x0, x1, y0, y1)) : Gives Tryz.prog 168 #[.agg #[.slice a n c, .int .i64 s.home, .slice sa sn sc, .slice ca cn cc], .agg (offA o), .agg #[.int .i64 (x0), .int .i64 (x1), .int .i64 (y0), .int .i64 (y1)]] w (.int .i64 (sqK (kndOf s o) (nearK (kndOf s o) (x0, x1, y0, y1)))) := by
  have hk := kbd_of he
  have hpb := near_bd (k := kndOf s o) ha
  have hsq := (sq_bdK hk hpb).1
  have HW := hide (fun W (hu : Up w W) => sWhere_any (hL.up hu).b (hL.up hu).h (hL.up hu).st (hL.up hu).ca o.station o.tick)
  obtain ⟨e1, e2, -, -⟩ := knd_wx s o
  rw [← e1, ← e2] at HW
  have HT := hide (fun W (hu : Up w W) => vto_any (hL.up hu) o he (x := (nearK (kndOf s o) (x0, x1, y0, y1)).1) (y := (nearK (kndOf s o) (x0, x1, y0, y1)).2) hpb)
  have HQ := hide (fun W => vsquare_any (x := (nearK (kndOf s o) (x0, x1, y0, y1)).1 - (kndOf s o).wx) (y := (nearK (kndOf s o) (x0, x1, y0, y1)).2 - (kndOf s o).wy) ⟨by have := hsq.1.1; omega, by have := hsq.1.2; omega⟩ ⟨by have := hsq.2.1; omega, by have := hsq.2.2; omega⟩ W)
  have hS : ((nearK (kndOf s o) (x0, x1, y0, y1)).1 - (kndOf s o).wx) * ((nearK (kndOf s o) (x0, x1, y0, y1)).1 - (kndOf s o).wx) + ((nearK (kndOf s o) (x0, x1, y0, y1)).2 - (kndOf s o).wy) * ((nearK (kndOf s o) (x0, x1, y0, y1)).2 - (kndOf s o).wy) = sqK (kndOf s o) (nearK (kndOf s o) (x0, x1, y0, y1)) := rfl
  rw [hS] at HQ
  obtain ⟨oz, hoz⟩ : ∃ z, (whereV s o.station o.tick).2.2 = z := ⟨_, rfl⟩
  rw [hoz] at HW
  generalize sqK (kndOf s o) (nearK (kndOf s o) (x0, x1, y0, y1)) = Q at *
  unfold nearK at HT HQ
  dsimp only at HT HQ
  clear hS hsq hpb hk he hL hoz e1 e2 ha
  generalize (kndOf s o).wx = wx at *
  generalize (kndOf s o).wy = wy at *
  generalize s.home = home at *
  (unfold Gives; go_enter Tryz.func168, Tryz.ntmps168)
  go_wp2_with fail
  go_at_call 138
  refine forgetK (fun V => Up w V ∧ Box V w.heap.size #[.slice a n c, .int .i64 home, .slice sa sn sc, .slice ca cn cc] 28 ∧ Box V (w.heap.size + 1) (offA o) 32 ∧ Box V (w.heap.size + 1 + 1) #[.int .i64 (x0), .int .i64 (x1), .int .i64 (y0), .int .i64 (y1)] 46) ⟨(by repeat (first | with_reducible exact Up.refl _ | with_reducible apply Up.plus | apply Up.ext | apply Up.alloc | apply Up.drew | (refine Up.setCell ?_ (by simp; try omega) _))), (by repeat (first | exact Box.mk rfl | (refine Box.mk ?_; simp; done) | apply Box.ext | apply Box.drew | apply Box.alloc | apply Box.two1 | (refine Box.other ?_ (by omega) _ _))), (by repeat (first | exact Box.mk rfl | (refine Box.mk ?_; simp; done) | apply Box.ext | apply Box.drew | apply Box.alloc | apply Box.two1 | (refine Box.other ?_ (by omega) _ _))), (by repeat (first | exact Box.mk rfl | (refine Box.mk ?_; simp; done) | apply Box.ext | apply Box.drew | apply Box.alloc | apply Box.two1 | (refine Box.other ?_ (by omega) _ _)))⟩ ?_
  rintro V ⟨hu, b0, b1, b2⟩
  have s0 := b0.cell 0 rfl
  have s1 := b0.cell 1 rfl
  have s2 := b0.cell 2 rfl
  have s3 := b0.cell 3 rfl
  have ls := b0.lt
  have f0 := b1.cell 0 rfl
  have f1 := b1.cell 1 rfl
  have f2 := b1.cell 2 rfl
  have f3 := b1.cell 3 rfl
  have f4 := b1.cell 4 rfl
  have f5 := b1.cell 5 rfl
  have f6 := b1.cell 6 rfl
  have f7 := b1.cell 7 rfl
  have f8 := b1.cell 8 rfl
  have f9 := b1.cell 9 rfl
  have f10 := b1.cell 10 rfl
  have lf := b1.lt
  have g0 := b2.cell 0 rfl
  have g1 := b2.cell 1 rfl
  have g2 := b2.cell 2 rfl
  have g3 := b2.cell 3 rfl
  have lg := b2.lt
  have HB := hide (hu)
  clear hu b0 b1 b2
  refine (HW.out _ HB.out).mono ?_
  intro q1
  go_wp2_with (first | (go_at_call 117; (with_reducible refine (HT.out _ (by repeat (first | with_reducible exact HB.out | with_reducible apply Up.ext | with_reducible apply Up.alloc | with_reducible apply Up.drew))).mono ?_); intro _) | (go_at_call 116; (with_reducible refine (HQ.out _).mono ?_); intro _))
  go_ret
  exact ⟨rfl, (by repeat (first | with_reducible exact HB.out | with_reducible exact Up.refl _ | apply Up.ext | apply Up.alloc | apply Up.drew | (refine Up.setCell ?_ (by simp [World.setCell]; try omega) _)))⟩
end Go.Proofs.YtnaiaodnnmhdkaaGreat
