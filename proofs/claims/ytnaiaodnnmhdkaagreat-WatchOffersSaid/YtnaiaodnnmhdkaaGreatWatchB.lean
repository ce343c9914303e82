/- Package watch: squares, turns, what is in a field. Conditions: bounds. -/
import Derived.Test.YtnaiaodnnmhdkaaGreatWatchA
namespace Go.Proofs.YtnaiaodnnmhdkaaGreat
set_option linter.unusedVariables false
set_option linter.unusedSimpArgs false
open Go.RowKit Go.Shelf

abbrev postA (k : KndD) : Array Value := #[.int .i64 (k.wx), .int .i64 (k.wy), .int .i64 (k.far), .int .i64 (k.err)]
abbrev scopeA (k : KndD) : Array Value := #[.int .i64 (k.wx), .int .i64 (k.wy), .int .i64 (k.far), .int .i64 (k.err), .int .i64 (k.dx), .int .i64 (k.dy), .int .i64 (k.lo), .int .i64 (k.hi), .int .i64 (k.wide)]
theorem wsquare_any {k : KndD} {p : Int × Int} (hk : KBd k) (hp : PBd p) (w : World) : Gives Tryz.prog 313 #[.agg (postA k), .agg #[.int .i64 (p.1), .int .i64 (p.2)]] w (.int .i64 (sqK k p)) := by
  have h := sq_bdK hk hp
  unfold sqK postA at *
  obtain ⟨p1, p2⟩ := p
  obtain ⟨⟨⟨a1, a2⟩, a3, a4⟩, ⟨b1, b2⟩, ⟨b3, b4⟩, b5, b6⟩ := h
  dsimp only at *
  generalize k.wx = wx at *
  generalize k.wy = wy at *
  generalize k.far = fr at *
  generalize k.err = er at *
  clear hk hp
  (unfold Gives; go_enter Tryz.func313, Tryz.ntmps313)
  go_wp2
  go_ret
  exact ⟨rfl, (by repeat (first | with_reducible exact Up.refl _ | with_reducible apply Up.plus | apply Up.ext | apply Up.alloc | apply Up.drew | (refine Up.setCell ?_ (by simp; try omega) _)))⟩
theorem wturns_any {k : KndD} {p : Int × Int} (hk : KBd k) (hp : PBd p) (w : World) : Gives Tryz.prog 171 #[.agg (scopeA k), .agg #[.int .i64 (p.1), .int .i64 (p.2)]] w (.tuple #[.int .i64 (crK k p), .int .i64 (doK k p)]) := by
  have h := sq_bdK hk hp
  have h2 := cr_bdK hk hp
  unfold crK doK scopeA at *
  obtain ⟨p1, p2⟩ := p
  obtain ⟨⟨⟨a1, a2⟩, a3, a4⟩, _⟩ := h
  obtain ⟨⟨⟨b1, b2⟩, b3, b4⟩, ⟨⟨b5, b6⟩, b7, b8⟩, ⟨b9, b10⟩, b11, b12⟩ := h2
  dsimp only at *
  generalize k.wx = wx at *
  generalize k.wy = wy at *
  generalize k.far = fr at *
  generalize k.err = er at *
  generalize k.dx = dx at *
  generalize k.dy = dy at *
  generalize k.lo = lo at *
  generalize k.hi = hi at *
  generalize k.wide = wd at *
  clear hk hp
  (unfold Gives; go_enter Tryz.func171, Tryz.ntmps171)
  go_wp2_with fail
  ((first | with_reducible refine wp_region_ext2 (by kernel_rfl) (by kernel_rfl) ?_ | refine wp_region_ext (by kernel_rfl) (by kernel_rfl) ?_); (repeat (go_big_quiet_step (fail))); refine wpQuiet_nil ?_; intro _ hw'; obtain ⟨_, hw''⟩ := hw'; subst hw'')
  go_wp2_with fail
  ((first | with_reducible refine wp_region_ext2 (by kernel_rfl) (by kernel_rfl) ?_ | refine wp_region_ext (by kernel_rfl) (by kernel_rfl) ?_); (repeat (go_big_quiet_step (fail))); refine wpQuiet_nil ?_; intro _ hw'; obtain ⟨_, hw''⟩ := hw'; subst hw'')
  go_wp2
  refine bodyPost_give (by repeat (first | with_reducible exact Up.refl _ | with_reducible apply Up.plus | apply Up.ext | apply Up.alloc | apply Up.drew | (refine Up.setCell ?_ (by simp; try omega) _))) rfl ⟨_, (by simp [results, Tryz.results171, go_sem]; rfl), ?_⟩
  rfl
theorem wreaches_any {k : KndD} {p : Int × Int} (hk : KBd k) (hp : PBd p) (w : World) : Gives Tryz.prog 308 #[.agg (postA k), .agg #[.int .i64 (p.1), .int .i64 (p.2)]] w (.bool (reachK k p)) := by
  have HS := hide (fun W => wsquare_any hk hp W)
  have hf := hk.far
  have hm := mul_abs (show -134217728 ≤ k.far by omega) hf.2 (show -134217728 ≤ k.far by omega) hf.2
  have e : (134217728 : Int) * 134217728 = 18014398509481984 := by decide
  rw [e] at hm
  have hb := (sq_bdK hk hp).2.2.2
  unfold reachK
  obtain ⟨p1, p2⟩ := p
  dsimp only at *
  generalize sqK k (p1, p2) = S at *
  unfold postA at *
  generalize k.wx = wx at *
  generalize k.wy = wy at *
  generalize k.far = fr at *
  generalize k.err = er at *
  clear hk hp
  (unfold Gives; go_enter Tryz.func308, Tryz.ntmps308)
  go_wp2_with fail
  ((first | with_reducible refine wp_region_ext2 (by kernel_rfl) (by kernel_rfl) ?_ | refine wp_region_ext (by kernel_rfl) (by kernel_rfl) ?_); (repeat (go_big_quiet_step ((go_at_call 313; exact Gives.inRegion (HS.out _))))); refine wpQuiet_nil ?_; intro _ hw'; obtain ⟨_, hw''⟩ := hw'; subst hw'')
  go_wp2
  go_ret
  exact ⟨rfl, (by repeat (first | with_reducible exact Up.refl _ | with_reducible apply Up.plus | apply Up.ext | apply Up.alloc | apply Up.drew | (refine Up.setCell ?_ (by simp; try omega) _)))⟩
theorem wwithin2_any {k : KndD} {p : Int × Int} {g : Int} (hk : KBd k) (hp : PBd p) (g0 : 0 ≤ g) (g1 : g ≤ 1000000) (w : World) : Gives Tryz.prog 134 #[.agg (scopeA k), .agg #[.int .i64 (p.1), .int .i64 (p.2)], .int .i64 g] w (.bool (withinK k p g)) := by
  have HT := hide (fun W => wturns_any hk hp W)
  have hc := cr_bdK hk hp
  have hd := wd_bdK hk hp g0 g1
  have hn : -g * doK k p = -(g * doK k p) := Int.neg_mul _ _
  unfold withinK
  obtain ⟨p1, p2⟩ := p
  dsimp only at *
  have hc1 := hc.2.2.1
  have hc2 := hc.2.2.2
  generalize crK k (p1, p2) = C at *
  generalize doK k (p1, p2) = D at *
  unfold scopeA at *
  generalize k.wx = wx at *
  generalize k.wy = wy at *
  generalize k.far = fr at *
  generalize k.err = er at *
  generalize k.dx = dx at *
  generalize k.dy = dy at *
  generalize k.lo = lo at *
  generalize k.hi = hi at *
  generalize k.wide = wd at *
  clear hk hp hc
  have hd1 : -558345748480000000 ≤ -g * D ∧ -g * D ≤ 558345748480000000 := by omega
  clear hn
  by_cases h0 : 0 < D
  · have h0b : decide (0 < D) = true := by simpa using h0
    rw [h0b, Bool.true_and]
    by_cases h1 : -g * D ≤ 1000000 * C
    · have h1b : decide (-g * D ≤ 1000000 * C) = true := by simpa using h1
      rw [h1b, Bool.true_and]
      (unfold Gives; go_enter Tryz.func134, Tryz.ntmps134)
      go_wp2_with (go_at_call 171; refine (HT.out _).mono ?_; intro _)
      go_ret
      exact ⟨rfl, (by repeat (first | with_reducible exact Up.refl _ | with_reducible apply Up.plus | apply Up.ext | apply Up.alloc | apply Up.drew | (refine Up.setCell ?_ (by simp; try omega) _)))⟩
    · have h1b : decide (-g * D ≤ 1000000 * C) = false := by simpa using h1
      rw [h1b, Bool.false_and]
      (unfold Gives; go_enter Tryz.func134, Tryz.ntmps134)
      go_wp2_with (go_at_call 171; refine (HT.out _).mono ?_; intro _)
      go_ret
      exact ⟨rfl, (by repeat (first | with_reducible exact Up.refl _ | with_reducible apply Up.plus | apply Up.ext | apply Up.alloc | apply Up.drew | (refine Up.setCell ?_ (by simp; try omega) _)))⟩
  · have h0b : decide (0 < D) = false := by simpa using h0
    rw [h0b, Bool.false_and]
    (unfold Gives; go_enter Tryz.func134, Tryz.ntmps134)
    go_wp2_with (go_at_call 171; refine (HT.out _).mono ?_; intro _)
    go_ret
    exact ⟨rfl, (by repeat (first | with_reducible exact Up.refl _ | with_reducible apply Up.plus | apply Up.ext | apply Up.alloc | apply Up.drew | (refine Up.setCell ?_ (by simp; try omega) _)))⟩
theorem wrfield_any {k : KndD} {p : Int × Int} (hk : KBd k) (hp : PBd p) (hs : k.sc = false) (w : World) : Gives Tryz.prog 309 #[.agg (postA k), .agg #[.int .i64 (p.1), .int .i64 (p.2)]] w (.bool (fieldK k p)) := by
  have HR := hide (fun W => wreaches_any hk hp W)
  unfold fieldK
  rw [hs, Bool.not_false, Bool.true_or, Bool.and_true]
  generalize reachK k p = R at *
  unfold postA at *
  generalize k.wx = wx at *
  generalize k.wy = wy at *
  generalize k.far = fr at *
  generalize k.err = er at *
  clear hk hp hs
  (unfold Gives; go_enter Tryz.func309, Tryz.ntmps309)
  go_wp2_with (go_at_call 308; refine (HR.out _).mono ?_; intro _)
  go_ret
  exact ⟨rfl, (by repeat (first | with_reducible exact Up.refl _ | with_reducible apply Up.plus | apply Up.ext | apply Up.alloc | apply Up.drew | (refine Up.setCell ?_ (by simp; try omega) _)))⟩
theorem wsfield_any {k : KndD} {p : Int × Int} (hk : KBd k) (hp : PBd p) (hs : k.sc = true) (w : World) : Gives Tryz.prog 315 #[.agg (scopeA k), .agg #[.int .i64 (p.1), .int .i64 (p.2)]] w (.bool (fieldK k p)) := by
  have HR := hide (fun W => wreaches_any hk hp W)
  have HW := hide (fun W => wwithin2_any hk hp hk.wide.1 hk.wide.2 W)
  unfold fieldK
  rw [hs, Bool.not_true, Bool.false_or]
  generalize reachK k p = R at *
  generalize withinK k p k.wide = T at *
  unfold postA scopeA at *
  generalize k.wx = wx at *
  generalize k.wy = wy at *
  generalize k.far = fr at *
  generalize k.err = er at *
  generalize k.dx = dx at *
  generalize k.dy = dy at *
  generalize k.lo = lo at *
  generalize k.hi = hi at *
  generalize k.wide = wd at *
  clear hk hp hs
  cases R
  all_goals
    (unfold Gives; go_enter Tryz.func315, Tryz.ntmps315)
    go_wp2_with (first | (go_at_call 308; refine (HR.out _).mono ?_; intro _) | (go_at_call 134; refine (HW.out _).mono ?_; intro _))
    go_ret
    exact ⟨rfl, (by repeat (first | with_reducible exact Up.refl _ | with_reducible apply Up.plus | apply Up.ext | apply Up.alloc | apply Up.drew | (refine Up.setCell ?_ (by simp; try omega) _)))⟩
end Go.Proofs.YtnaiaodnnmhdkaaGreat
