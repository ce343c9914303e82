/- Package watch: slopes, what is read of a place, the nearest place of an area, its corners; which areas are valid. Conditions: bounds. -/
import Derived.Test.YtnaiaodnnmhdkaaGreatWatchL
namespace Go.Proofs.YtnaiaodnnmhdkaaGreat
set_option linter.unusedVariables false
set_option linter.unusedSimpArgs false
open Go.RowKit Go.Shelf

theorem md_slope {k : KndD} {p : Int × Int} (hk : KBd k) (hp : PBd p) (h : 0 < doK k p) : mdE (1000000 * crK k p) (doK k p) = ((slopeK k p).1, (slopeK k p).2, 0) := by
  have hc := (cr_bdK hk hp).2.2.1
  have s1 := (slope_spec (k := k) h (-558345748480000000)).1.2 (by
    have := Int.mul_le_mul_of_nonneg_left (show (1 : Int) ≤ doK k p by omega) (show (0 : Int) ≤ 558345748480000000 by omega)
    omega)
  have s2 := (slope_spec (k := k) h 558345748480000000).2.2 (by
    have := Int.mul_le_mul_of_nonneg_left (show (1 : Int) ≤ doK k p by omega) (show (0 : Int) ≤ 558345748480000000 by omega)
    omega)
  have s3 := slope_le h
  unfold mdE
  unfold slopeK at *
  dsimp only at *
  have e1 : floQ (1000000 * crK k p) (doK k p) = 1000000 * crK k p / doK k p := by unfold floQ; rw [if_neg (by omega)]
  have e2 : ceiQ (1000000 * crK k p) (doK k p) = -(-(1000000 * crK k p) / doK k p) := by unfold ceiQ floQ; rw [if_neg (by omega)]
  rw [e1, e2]
  split
  · rfl
  · rename_i hn
    exfalso
    apply hn
    omega
theorem mdE_bdd {k : KndD} {p : Int × Int} (hk : KBd k) (hp : PBd p) (h : 0 < doK k p) : (-1152921504606846976 ≤ (slopeK k p).1 ∧ (slopeK k p).1 ≤ 1152921504606846976) ∧ -1152921504606846976 ≤ (slopeK k p).2 ∧ (slopeK k p).2 ≤ 1152921504606846976 := by
  have hc := (cr_bdK hk hp).2.2.1
  have s1 := (slope_spec (k := k) h (-558345748480000000)).1.2 (by
    have := Int.mul_le_mul_of_nonneg_left (show (1 : Int) ≤ doK k p by omega) (show (0 : Int) ≤ 558345748480000000 by omega)
    omega)
  have s2 := (slope_spec (k := k) h 558345748480000000).2.2 (by
    have := Int.mul_le_mul_of_nonneg_left (show (1 : Int) ≤ doK k p by omega) (show (0 : Int) ≤ 558345748480000000 by omega)
    omega)
  have s3 := slope_le h
  have t1 := (slope_spec (k := k) h 558345748480000000).1
  omega
set_option maxRecDepth 100000 in
theorem wslope_any {k : KndD} {p : Int × Int} (hk : KBd k) (hp : PBd p) (h : 0 < doK k p) (w : World) : Gives Tryz.prog 322 #[.agg (scopeA k), .agg #[.int .i64 (p.1), .int .i64 (p.2)]] w (.agg #[.int .i64 ((slopeK k p).1), .int .i64 ((slopeK k p).2)]) := by
  have HT := hide (fun W => wturns_any hk hp W)
  have HM := hide (fun W => muldiv_any 1000000 (crK k p) (doK k p) W)
  rw [show mulDivE 1000000 (crK k p) (doK k p) = ((slopeK k p).1, (slopeK k p).2, 0) by
    have hc := cr_bdK hk hp
    unfold mulDivE
    rw [if_pos ⟨(fits_iff _).2 (by omega), (fits_iff _).2 (by omega), (fits_iff _).2 (by omega), by omega⟩]
    exact md_slope hk hp h] at HM
  obtain ⟨p1, p2⟩ := p
  dsimp only at *
  generalize slopeK k (p1, p2) = S at *
  generalize crK k (p1, p2) = C at *
  generalize doK k (p1, p2) = D at *
  unfold scopeA at *
  generalize k.wx = wx at *
  generalize k.wy = wy at *
  generalize k.far = fr at *
  generalize k.err = er at *
  generalize k.dx = dx at *
  generalize k.dy = dy at *
  generalize k.lo = lo at *
  generalize k.hi = hi at *
  generalize k.wide = wd at *
  clear hk hp h
  try dsimp only at HM
  (unfold Gives; go_enter Tryz.func322, Tryz.ntmps322)
  go_wp2_with (first | (go_at_call 171; refine (HT.out _).mono ?_; intro _) | (go_at_call 267; refine (HM.out _).mono ?_; intro _))
  (refine forgetW (fun WF => Up w WF ∧ Box WF (w.heap.size + 1 + 1) #[.int .i64 S.1, .int .i64 S.2] 38) ⟨(by repeat (first | with_reducible exact Up.refl _ | with_reducible apply Up.plus | apply Up.ext | apply Up.alloc | apply Up.drew | (refine Up.setCell ?_ (by simp; try omega) _))), (by repeat (first | exact Box.mk rfl | (refine Box.mk ?_; simp; done) | apply Box.ext | apply Box.drew | apply Box.alloc | apply Box.two1 | (refine Box.other ?_ (by omega) _ _)))⟩ ?_; rintro WF ⟨huF, hbF⟩; have zF0 := hbF.cell 0 rfl; have zF1 := hbF.cell 1 rfl; (refine bodyPost_give huF rfl ⟨_, (by simp [results, Tryz.results322, go_sem, zF0, zF1]; rfl), ?_⟩); rfl)
theorem roots_same {n : Int} (h0 : 0 ≤ n) (h1 : n ≤ 1152921504606846976) : rootsS n n = (isq n, upq n, 0) := by
  unfold rootsS upq
  rw [if_pos (check_ok (by omega) (Int.le_refl _) h1), if_neg (by omega)]
set_option maxRecDepth 100000 in
theorem wrreads_any {k : KndD} {p : Int × Int} (hk : KBd k) (hp : PBd p) (hs : k.sc = false) (w : World) : Gives Tryz.prog 311 #[.agg (postA k), .agg #[.int .i64 (p.1), .int .i64 (p.2)]] w (.agg #[.int .i64 ((readsK k p).1), .int .i64 ((readsK k p).2)]) := by
  have HS := hide (fun W => wsquare_any hk hp W)
  have hb := (sq_bdK hk hp).2.2.2
  have HR := hide (fun W => roots_any (sqK k p) (sqK k p) W)
  rw [roots_same hb.1 (by omega)] at HR
  have i1 := isq_spec (sqK k p) hb.1 (by omega)
  have i2 := upq_spec (x := sqK k p) hb.1 (by omega)
  have i3 : isq (sqK k p) ≤ sqK k p := by
    rcases Int.lt_or_le (isq (sqK k p)) 1 with h | h
    · omega
    · have := Int.mul_le_mul_of_nonneg_left h i1.1
      omega
  have i4 : upq (sqK k p) ≤ sqK k p + 1 := by unfold upq; split <;> omega
  have he := hk.err
  unfold readsK
  rw [if_neg (by simp [hs])]
  obtain ⟨p1, p2⟩ := p
  dsimp only at *
  have hI : 0 ≤ isq (sqK k (p1, p2)) ∧ isq (sqK k (p1, p2)) ≤ 9290873254707201 := by omega
  have hU : 0 ≤ upq (sqK k (p1, p2)) ∧ upq (sqK k (p1, p2)) ≤ 9290873254707201 := by omega
  clear i1 i2 i3 i4
  generalize isq (sqK k (p1, p2)) = I at *
  generalize upq (sqK k (p1, p2)) = U at *
  generalize sqK k (p1, p2) = S at *
  unfold postA at *
  generalize k.wx = wx at *
  generalize k.wy = wy at *
  generalize k.far = fr at *
  generalize k.err = er at *
  clear hk hp hs
  (unfold Gives; go_enter Tryz.func311, Tryz.ntmps311)
  go_wp2_with (first | (go_at_call 313; refine (HS.out _).mono ?_; intro _) | (go_at_call 265; refine (HR.out _).mono ?_; intro _))
  (refine forgetW (fun WF => Up w WF ∧ Box WF (w.heap.size + 1 + 1) #[.int .i64 ((U - er, I + er) : Int × Int).1, .int .i64 ((U - er, I + er) : Int × Int).2] 38) ⟨(by repeat (first | with_reducible exact Up.refl _ | with_reducible apply Up.plus | apply Up.ext | apply Up.alloc | apply Up.drew | (refine Up.setCell ?_ (by simp; try omega) _))), (by repeat (first | exact Box.mk rfl | (refine Box.mk ?_; simp; done) | apply Box.ext | apply Box.drew | apply Box.alloc | apply Box.two1 | (refine Box.other ?_ (by omega) _ _)))⟩ ?_; rintro WF ⟨huF, hbF⟩; have zF0 := hbF.cell 0 rfl; have zF1 := hbF.cell 1 rfl; (refine bodyPost_give huF rfl ⟨_, (by simp [results, Tryz.results311, go_sem, zF0, zF1]; rfl), ?_⟩); rfl)
set_option maxRecDepth 100000 in
theorem wsreads_any {k : KndD} {p : Int × Int} (hk : KBd k) (hp : PBd p) (hs : k.sc = true) (h : 0 < doK k p) (w : World) : Gives Tryz.prog 317 #[.agg (scopeA k), .agg #[.int .i64 (p.1), .int .i64 (p.2)]] w (.agg #[.int .i64 ((readsK k p).1), .int .i64 ((readsK k p).2)]) := by
  have HS := hide (fun W => wslope_any hk hp h W)
  have hbd := mdE_bdd hk hp h
  have he := hk.err
  have hbi := hk.bias
  unfold readsK
  rw [if_pos hs]
  obtain ⟨p1, p2⟩ := p
  dsimp only at *
  generalize slopeK k (p1, p2) = S at *
  obtain ⟨S1, S2⟩ := S
  dsimp only at *
  unfold scopeA at *
  generalize k.wx = wx at *
  generalize k.wy = wy at *
  generalize k.far = fr at *
  generalize k.err = er at *
  generalize k.dx = dx at *
  generalize k.dy = dy at *
  generalize k.lo = lo at *
  generalize k.hi = hi at *
  generalize k.wide = wd at *
  clear hk hp h hs
  (unfold Gives; go_enter Tryz.func317, Tryz.ntmps317)
  go_wp2_with (go_at_call 322; refine (HS.out _).mono ?_; intro _)
  (refine forgetW (fun WF => Up w WF ∧ Box WF (w.heap.size + 1 + 1) #[.int .i64 ((S2 - hi - er, S1 - lo + er) : Int × Int).1, .int .i64 ((S2 - hi - er, S1 - lo + er) : Int × Int).2] 38) ⟨(by repeat (first | with_reducible exact Up.refl _ | with_reducible apply Up.plus | apply Up.ext | apply Up.alloc | apply Up.drew | (refine Up.setCell ?_ (by simp; try omega) _))), (by repeat (first | exact Box.mk rfl | (refine Box.mk ?_; simp; done) | apply Box.ext | apply Box.drew | apply Box.alloc | apply Box.two1 | (refine Box.other ?_ (by omega) _ _)))⟩ ?_; rintro WF ⟨huF, hbF⟩; have zF0 := hbF.cell 0 rfl; have zF1 := hbF.cell 1 rfl; (refine bodyPost_give huF rfl ⟨_, (by simp [results, Tryz.results317, go_sem, zF0, zF1]; rfl), ?_⟩); rfl)
set_option maxRecDepth 100000 in
theorem wnearest_any (k : KndD) (a : Ar4) (w : World) : Gives Tryz.prog 314 #[.agg (postA k), .agg #[.int .i64 (a.1), .int .i64 (a.2.1), .int .i64 (a.2.2.1), .int .i64 (a.2.2.2)]] w (.agg #[.int .i64 ((nearK k a).1), .int .i64 ((nearK k a).2)]) := by
  unfold nearK postA
  obtain ⟨x0, x1, y0, y1⟩ := a
  dsimp only
  generalize k.wx = wx
  generalize k.wy = wy
  generalize k.far = fr
  generalize k.err = er
  (unfold Gives; go_enter Tryz.func314, Tryz.ntmps314)
  go_wp2
  all_goals (refine bodyPost_give (by repeat (first | with_reducible exact Up.refl _ | with_reducible apply Up.plus | apply Up.ext | apply Up.alloc | apply Up.drew | (refine Up.setCell ?_ (by simp; try omega) _))) rfl ⟨_, (by simp [results, Tryz.results314, go_sem]; rfl), ?_⟩)
  all_goals rfl
set_option maxRecDepth 100000 in
theorem wcorners_any (a : Ar4) (w : World) : Gives Tryz.prog 165 #[.agg #[.int .i64 (a.1), .int .i64 (a.2.1), .int .i64 (a.2.2.1), .int .i64 (a.2.2.2)]] w (.agg #[.int .i64 (a.1), .int .i64 (a.2.2.1), .int .i64 (a.1), .int .i64 (a.2.2.2), .int .i64 (a.2.1), .int .i64 (a.2.2.1), .int .i64 (a.2.1), .int .i64 (a.2.2.2)]) := by
  obtain ⟨x0, x1, y0, y1⟩ := a
  dsimp only
  (unfold Gives; go_enter Tryz.func165, Tryz.ntmps165)
  go_wp2
  all_goals (refine bodyPost_give (by repeat (first | with_reducible exact Up.refl _ | with_reducible apply Up.plus | apply Up.ext | apply Up.alloc | apply Up.drew | (refine Up.setCell ?_ (by simp; try omega) _))) rfl ⟨_, (by simp [results, Tryz.results165, go_sem]; rfl), ?_⟩)
  all_goals rfl
set_option maxRecDepth 100000 in
theorem wplace_any (x y : Int) (w : World) : Gives Tryz.prog 68 #[.agg #[.int .i64 (x), .int .i64 (y)]] w (.bool (nearV 33554432 (x, y))) := by
  unfold nearV
  dsimp only
  have H1 := hide (fun W => wwithin_any x (-33554432) 33554432 W)
  have H2 := hide (fun W => wwithin_any y (-33554432) 33554432 W)
  generalize withinB x (-33554432) 33554432 = A at *
  generalize withinB y (-33554432) 33554432 = B at *
  cases A
  · (unfold Gives; go_enter Tryz.func68, Tryz.ntmps68)
    go_wp2_with fail
    go_at_call 61
    refine (H1.out _).mono ?_
    intro p1
    go_wp2
    go_ret
    exact ⟨rfl, (by repeat (first | with_reducible exact Up.refl _ | with_reducible apply Up.plus | apply Up.ext | apply Up.alloc | apply Up.drew | (refine Up.setCell ?_ (by simp; try omega) _)))⟩
  · (unfold Gives; go_enter Tryz.func68, Tryz.ntmps68)
    go_wp2_with fail
    go_at_call 61
    refine (H1.out _).mono ?_
    intro p1
    go_wp2_with fail
    go_at_call 61
    refine (H2.out _).mono ?_
    intro p2
    go_wp2
    go_ret
    exact ⟨rfl, (by repeat (first | with_reducible exact Up.refl _ | with_reducible apply Up.plus | apply Up.ext | apply Up.alloc | apply Up.drew | (refine Up.setCell ?_ (by simp; try omega) _)))⟩
set_option maxRecDepth 100000 in
theorem warea_any (a : Ar4) (w : World) : Gives Tryz.prog 72 #[.agg #[.int .i64 (a.1), .int .i64 (a.2.1), .int .i64 (a.2.2.1), .int .i64 (a.2.2.2)]] w (.bool (areaB a)) := by
  obtain ⟨x0, x1, y0, y1⟩ := a
  unfold areaB
  dsimp only
  have H1 := hide (fun W => wplace_any x0 y0 W)
  have H2 := hide (fun W => wplace_any x1 y1 W)
  generalize nearV 33554432 (x0, y0) = A at *
  generalize nearV 33554432 (x1, y1) = B at *
  by_cases h1 : x0 ≤ x1
  · by_cases h2 : y0 ≤ y1
    · rw [decide_eq_true h1, decide_eq_true h2]
      cases A
      · (unfold Gives; go_enter Tryz.func72, Tryz.ntmps72)
        go_wp2_with fail
        go_at_call 68
        refine (H1.out _).mono ?_
        intro p1
        go_wp2
        go_ret
        exact ⟨rfl, (by repeat (first | with_reducible exact Up.refl _ | with_reducible apply Up.plus | apply Up.ext | apply Up.alloc | apply Up.drew | (refine Up.setCell ?_ (by simp; try omega) _)))⟩
      · (unfold Gives; go_enter Tryz.func72, Tryz.ntmps72)
        go_wp2_with fail
        go_at_call 68
        refine (H1.out _).mono ?_
        intro p1
        go_wp2_with fail
        go_at_call 68
        refine (H2.out _).mono ?_
        intro p2
        go_wp2
        go_ret
        exact ⟨rfl, (by repeat (first | with_reducible exact Up.refl _ | with_reducible apply Up.plus | apply Up.ext | apply Up.alloc | apply Up.drew | (refine Up.setCell ?_ (by simp; try omega) _)))⟩
    · rw [decide_eq_true h1, decide_eq_false h2]
      (unfold Gives; go_enter Tryz.func72, Tryz.ntmps72)
      go_wp2
      go_ret
      exact ⟨rfl, (by repeat (first | with_reducible exact Up.refl _ | with_reducible apply Up.plus | apply Up.ext | apply Up.alloc | apply Up.drew | (refine Up.setCell ?_ (by simp; try omega) _)))⟩
  · rw [decide_eq_false h1]
    (unfold Gives; go_enter Tryz.func72, Tryz.ntmps72)
    go_wp2
    go_ret
    exact ⟨rfl, (by repeat (first | with_reducible exact Up.refl _ | with_reducible apply Up.plus | apply Up.ext | apply Up.alloc | apply Up.drew | (refine Up.setCell ?_ (by simp; try omega) _)))⟩
end Go.Proofs.YtnaiaodnnmhdkaaGreat
