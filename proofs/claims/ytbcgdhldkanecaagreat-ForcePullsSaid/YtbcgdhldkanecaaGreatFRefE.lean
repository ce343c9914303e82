/- Several texts in one. -/
import Derived.Test.YtbcgdhldkanecaaGreatFRefD
/- The reference of package force: questions about one body, light, heat. Conditions: what lies in memory. -/
namespace Go.Proofs.YtbcgdhldkanecaaGreat
set_option linter.unusedVariables false
set_option linter.unusedSimpArgs false
open Go.RowKit Go.Shelf

theorem g_at (x y : Int) (w : World) : Gives Tryz.prog 54 #[.agg #[.int .i64 (x), .int .i64 (y)]] w (.agg #[.int .i64 (x), .int .i64 (x), .int .i64 (y), .int .i64 (y)]) := by
  (unfold Gives; go_enter Tryz.func54, Tryz.ntmps54)
  go_wp2
  all_goals (refine bodyPost_give (by repeat (first | with_reducible exact Up.refl _ | with_reducible apply Up.plus | apply Up.ext | apply Up.alloc | apply Up.drew | (refine Up.setCell ?_ (by simp; try omega) _))) rfl ⟨_, (by simp [results, Tryz.results54, go_sem]; rfl), ?_⟩)
  all_goals rfl
set_option maxRecDepth 100000 in
set_option maxHeartbeats 2000000 in
theorem g_One {K : Nat → Prop} {w : World} {a : Option Addr} {n c : Nat} {bs : List Bod} {home : Int} (hl : Bods K w (.slice a n c) bs) (hh : I64 home) (body t : Int) (x : Ar) :
    Gives Tryz.prog 16 #[.agg #[.slice a n c, .int .i64 home], .int .i64 body, .int .i64 t, .agg #[.int .i64 x.1, .int .i64 x.2.1, .int .i64 x.2.2.1, .int .i64 x.2.2.2]] w (.tuple #[.agg #[.int .i64 ((oneV bs home body t x).1).1, .int .i64 ((oneV bs home body t x).1).2.1, .int .i64 ((oneV bs home body t x).1).2.2.1, .int .i64 ((oneV bs home body t x).1).2.2.2], .int .i64 (oneV bs home body t x).2]) := by
  obtain ⟨x0, x1, y0, y1⟩ := x
  have hn := (Bods.at hl).1
  have HA := hide (fun W (hu : Up w W) => g_asked (hl.keeps (hu.keeps K)) hh (0, 0) (0, 0) 0 t x0 x1 y0 y1)
  unfold oneV
  by_cases he : askedE bs home (0, 0) (0, 0) 0 t (x0, x1, y0, y1) = 0
  · rw [if_pos he]
    obtain ⟨h1, _, ⟨h2, h3⟩, _⟩ := asked_zero he
    rw [he] at HA
    by_cases hb : body < 0 ∨ (bs.length : Int) ≤ body
    · rw [if_pos hb]
      rw [← hn] at hb
      clear hl hn he h1
      rcases hb with hb | hb
      · have hb0 : decide (body < 0) = true := by simp; omega
        (unfold Gives; go_enter Tryz.func16, Tryz.ntmps16)
        go_wp2_with (go_at_call 42; refine (HA.out _ (by repeat (first | with_reducible exact Up.refl _ | with_reducible apply Up.plus | apply Up.ext | apply Up.alloc | apply Up.drew | (refine Up.setCell ?_ (by simp; try omega) _)))).mono ?_; intro _)
        (refine forgetW (fun WF => Up w WF ∧ Box WF (w.heap.size + 1 + 1) #[.int .i64 zA.1, .int .i64 zA.2.1, .int .i64 zA.2.2.1, .int .i64 zA.2.2.2] 30) ⟨(by repeat (first | with_reducible exact Up.refl _ | with_reducible apply Up.plus | apply Up.ext | apply Up.alloc | apply Up.drew | (refine Up.setCell ?_ (by simp; try omega) _))), (by repeat (first | exact Box.mk rfl | (refine Box.mk ?_; simp; done) | apply Box.ext | apply Box.drew | apply Box.alloc | apply Box.two1 | (refine Box.other ?_ (by omega) _ _)))⟩ ?_; rintro WF ⟨huF, hbF⟩; have zF0 := hbF.cell 0 rfl; have zF1 := hbF.cell 1 rfl; have zF2 := hbF.cell 2 rfl; have zF3 := hbF.cell 3 rfl; (refine bodyPost_give huF rfl ⟨_, (by simp [results, Tryz.results16, go_sem, zF0, zF1, zF2, zF3]; rfl), ?_⟩); rfl)
      · have hb0 : decide (body < 0) = false := by simp; omega
        have hb1 : decide ((n : Int) ≤ body) = true := by simp; omega
        (unfold Gives; go_enter Tryz.func16, Tryz.ntmps16)
        go_wp2_with (go_at_call 42; refine (HA.out _ (by repeat (first | with_reducible exact Up.refl _ | with_reducible apply Up.plus | apply Up.ext | apply Up.alloc | apply Up.drew | (refine Up.setCell ?_ (by simp; try omega) _)))).mono ?_; intro _)
        (refine forgetW (fun WF => Up w WF ∧ Box WF (w.heap.size + 1 + 1) #[.int .i64 zA.1, .int .i64 zA.2.1, .int .i64 zA.2.2.1, .int .i64 zA.2.2.2] 30) ⟨(by repeat (first | with_reducible exact Up.refl _ | with_reducible apply Up.plus | apply Up.ext | apply Up.alloc | apply Up.drew | (refine Up.setCell ?_ (by simp; try omega) _))), (by repeat (first | exact Box.mk rfl | (refine Box.mk ?_; simp; done) | apply Box.ext | apply Box.drew | apply Box.alloc | apply Box.two1 | (refine Box.other ?_ (by omega) _ _)))⟩ ?_; rintro WF ⟨huF, hbF⟩; have zF0 := hbF.cell 0 rfl; have zF1 := hbF.cell 1 rfl; have zF2 := hbF.cell 2 rfl; have zF3 := hbF.cell 3 rfl; (refine bodyPost_give huF rfl ⟨_, (by simp [results, Tryz.results16, go_sem, zF0, zF1, zF2, zF3]; rfl), ?_⟩); rfl)
    · rw [if_neg hb]
      have hb' : ¬ (body < 0 ∨ (n : Int) ≤ body) := by rw [hn]; exact hb
      obtain ⟨i, rfl⟩ := Int.eq_ofNat_of_zero_le (show 0 ≤ body by omega)
      have hi : i < bs.length := by omega
      have K1 := hide (fun W (hu : Up w W) => g_one (hl.keeps (hu.keeps K)) hh h1 (i := i) (b := bs[i]) (List.getElem?_eq_getElem hi) h2 h3 x0 x1 y0 y1)
      rw [show bs.getD ((i : Int)).toNat ⟨0, 0, []⟩ = bs[i] by simp [List.getD, List.getElem?_eq_getElem hi]]
      generalize pullB t (x0, x1, y0, y1) bs[i] = R at *
      have hb0 : decide ((i : Int) < 0) = false := by simp
      have hb1 : decide ((n : Int) ≤ i) = false := by simp; omega
      have hb2 : decide (n ≤ i) = false := by simp; omega
      clear hl hn he h1 hb hb' hi
      (unfold Gives; go_enter Tryz.func16, Tryz.ntmps16)
      go_wp2_with (first | (go_at_call 42; refine (HA.out _ (by repeat (first | with_reducible exact Up.refl _ | with_reducible apply Up.plus | apply Up.ext | apply Up.alloc | apply Up.drew | (refine Up.setCell ?_ (by simp; try omega) _)))).mono ?_; intro _) | (go_at_call 43; refine (K1.out _ (by repeat (first | with_reducible exact Up.refl _ | with_reducible apply Up.plus | apply Up.ext | apply Up.alloc | apply Up.drew | (refine Up.setCell ?_ (by simp; try omega) _)))).mono ?_; intro _))
      (refine forgetW (fun WF => Up w WF ∧ Box WF (w.heap.size + 1 + 1) #[.int .i64 R.1, .int .i64 R.2.1, .int .i64 R.2.2.1, .int .i64 R.2.2.2] 30) ⟨(by repeat (first | with_reducible exact Up.refl _ | with_reducible apply Up.plus | apply Up.ext | apply Up.alloc | apply Up.drew | (refine Up.setCell ?_ (by simp; try omega) _))), (by repeat (first | exact Box.mk rfl | (refine Box.mk ?_; simp; done) | apply Box.ext | apply Box.drew | apply Box.alloc | apply Box.two1 | (refine Box.other ?_ (by omega) _ _)))⟩ ?_; rintro WF ⟨huF, hbF⟩; have zF0 := hbF.cell 0 rfl; have zF1 := hbF.cell 1 rfl; have zF2 := hbF.cell 2 rfl; have zF3 := hbF.cell 3 rfl; (refine bodyPost_give huF rfl ⟨_, (by simp [results, Tryz.results16, go_sem, zF0, zF1, zF2, zF3]; rfl), ?_⟩); rfl)
  · rw [if_neg he]
    have heb : (askedE bs home (0, 0) (0, 0) 0 t (x0, x1, y0, y1) != 0) = true := by simp [he]
    generalize askedE bs home (0, 0) (0, 0) 0 t (x0, x1, y0, y1) = e at *
    clear hl hn he
    (unfold Gives; go_enter Tryz.func16, Tryz.ntmps16)
    go_wp2_with (go_at_call 42; refine (HA.out _ (by repeat (first | with_reducible exact Up.refl _ | with_reducible apply Up.plus | apply Up.ext | apply Up.alloc | apply Up.drew | (refine Up.setCell ?_ (by simp; try omega) _)))).mono ?_; intro _)
    (refine forgetW (fun WF => Up w WF ∧ Box WF (w.heap.size + 1 + 1) #[.int .i64 zA.1, .int .i64 zA.2.1, .int .i64 zA.2.2.1, .int .i64 zA.2.2.2] 30) ⟨(by repeat (first | with_reducible exact Up.refl _ | with_reducible apply Up.plus | apply Up.ext | apply Up.alloc | apply Up.drew | (refine Up.setCell ?_ (by simp; try omega) _))), (by repeat (first | exact Box.mk rfl | (refine Box.mk ?_; simp; done) | apply Box.ext | apply Box.drew | apply Box.alloc | apply Box.two1 | (refine Box.other ?_ (by omega) _ _)))⟩ ?_; rintro WF ⟨huF, hbF⟩; have zF0 := hbF.cell 0 rfl; have zF1 := hbF.cell 1 rfl; have zF2 := hbF.cell 2 rfl; have zF3 := hbF.cell 3 rfl; (refine bodyPost_give huF rfl ⟨_, (by simp [results, Tryz.results16, go_sem, zF0, zF1, zF2, zF3]; rfl), ?_⟩); rfl)
theorem part_bd (a b : Sp) : (-1152921504606846976 ≤ (partP a b).1 ∧ (partP a b).1 ≤ 1152921504606846976) ∧ -1152921504606846976 ≤ (partP a b).2 ∧ (partP a b).2 ≤ 1152921504606846976 := quotP_bd _ _
set_option maxRecDepth 100000 in
set_option maxHeartbeats 2000000 in
theorem g_Light {K : Nat → Prop} {w : World} {a : Option Addr} {n c : Nat} {bs : List Bod} {home : Int} (hl : Bods K w (.slice a n c) bs) (hh : I64 home) (l h : Sp) (g t : Int) (x : Ar) :
    Gives Tryz.prog 27 #[.agg #[.slice a n c, .int .i64 home], .agg #[.int .i64 l.1, .int .i64 l.2, .int .i64 h.1, .int .i64 h.2, .int .i64 g], .int .i64 t, .agg #[.int .i64 x.1, .int .i64 x.2.1, .int .i64 x.2.2.1, .int .i64 x.2.2.2]] w (.tuple #[.agg #[.int .i64 ((lightV bs home l h g t x).1).1, .int .i64 ((lightV bs home l h g t x).1).2.1, .int .i64 ((lightV bs home l h g t x).1).2.2.1, .int .i64 ((lightV bs home l h g t x).1).2.2.2], .int .i64 (lightV bs home l h g t x).2]) := by
  obtain ⟨x0, x1, y0, y1⟩ := x
  have HA := hide (fun W (hu : Up w W) => g_asked (hl.keeps (hu.keeps K)) hh l h g t x0 x1 y0 y1)
  unfold lightV
  by_cases he : askedE bs home l h g t (x0, x1, y0, y1) = 0
  · rw [if_pos he]
    obtain ⟨h1, _, ⟨h2, h3⟩, _⟩ := asked_zero he
    rw [he] at HA
    have hi : 0 < bs.length := List.length_pos_iff.2 (worldE_zero h1).1
    have K1 := hide (fun W (hu : Up w W) => g_one (hl.keeps (hu.keeps K)) hh h1 (i := 0) (b := bs[0]) (List.getElem?_eq_getElem hi) h2 h3 x0 x1 y0 y1)
    rw [show bs.getD 0 ⟨0, 0, []⟩ = bs[0] by simp [List.getD, List.getElem?_eq_getElem hi]]
    generalize pullB t (x0, x1, y0, y1) bs[0] = R at *
    obtain ⟨R1, R2, R3, R4⟩ := R
    obtain ⟨l1, l2⟩ := l
    have K3 := hide (fun W => g_thousandth l1 l2 R1 R2 W)
    have K4 := hide (fun W => g_thousandth l1 l2 R3 R4 W)
    have b1 := part_bd (l1, l2) (R1, R2)
    have b2 := part_bd (l1, l2) (R3, R4)
    obtain ⟨u1, u2, hu⟩ : ∃ u1 u2, partP (l1, l2) (R1, R2) = (u1, u2) := ⟨_, _, rfl⟩
    obtain ⟨v1, v2, hv⟩ : ∃ v1 v2, partP (l1, l2) (R3, R4) = (v1, v2) := ⟨_, _, rfl⟩
    rw [hu] at K3 b1
    rw [hv] at K4 b2
    simp only at b1 b2 K3 K4
    have HS := hide (show lightP (l1, l2) (R1, R2, R3, R4) = (-u2, -u1, -v2, -v1) by unfold lightP arX arY; simp only; rw [hu, hv]; rfl)
    clear hl he h1 hi hu hv
    dsimp only at HA
    (unfold Gives; go_enter Tryz.func27, Tryz.ntmps27)
    go_wp2_with (first | (go_at_call 42; refine (HA.out _ (by repeat (first | with_reducible exact Up.refl _ | with_reducible apply Up.plus | apply Up.ext | apply Up.alloc | apply Up.drew | (refine Up.setCell ?_ (by simp; try omega) _)))).mono ?_; intro _) | (go_at_call 43; refine (K1.out _ (by repeat (first | with_reducible exact Up.refl _ | with_reducible apply Up.plus | apply Up.ext | apply Up.alloc | apply Up.drew | (refine Up.setCell ?_ (by simp; try omega) _)))).mono ?_; intro _))
    ((first | with_reducible refine wp_region_ext_tail2 2 (by kernel_rfl) (by kernel_rfl) ?_ | refine wp_region_ext_tail 2 (by kernel_rfl) (by kernel_rfl) ?_); simp only [List.length_cons, List.length_nil, Nat.reduceAdd, Nat.reduceSub, List.take_succ_cons, List.take_zero, List.drop_succ_cons, List.drop_zero]; (repeat (go_big_quiet_step ((first | (go_at_call 56; with_reducible exact Gives.inRegion (K3.out _)) | (go_at_call 56; with_reducible exact Gives.inRegion (K4.out _)) | (go_at_call 55; with_reducible exact Gives.inRegion (g_minus _ _ (by omega) (by omega) (by omega) (by omega) _)))))); refine wpQuiet_nil ?_; intro _ hw'; obtain ⟨_, hw''⟩ := hw'; subst hw'')
    go_wp2
    rw [HS.out]
    (refine forgetW (fun WF => Up w WF ∧ Box WF (w.heap.size + 1 + 1 + 1) #[.int .i64 ((-u2, -u1, -v2, -v1) : Ar).1, .int .i64 ((-u2, -u1, -v2, -v1) : Ar).2.1, .int .i64 ((-u2, -u1, -v2, -v1) : Ar).2.2.1, .int .i64 ((-u2, -u1, -v2, -v1) : Ar).2.2.2] 30) ⟨(by repeat (first | with_reducible exact Up.refl _ | with_reducible apply Up.plus | apply Up.ext | apply Up.alloc | apply Up.drew | (refine Up.setCell ?_ (by simp; try omega) _))), (by repeat (first | exact Box.mk rfl | (refine Box.mk ?_; simp; done) | apply Box.ext | apply Box.drew | apply Box.alloc | apply Box.two1 | (refine Box.other ?_ (by omega) _ _)))⟩ ?_; rintro WF ⟨huF, hbF⟩; have zF0 := hbF.cell 0 rfl; have zF1 := hbF.cell 1 rfl; have zF2 := hbF.cell 2 rfl; have zF3 := hbF.cell 3 rfl; (refine bodyPost_give huF rfl ⟨_, (by simp [results, Tryz.results27, go_sem, zF0, zF1, zF2, zF3]; rfl), ?_⟩); rfl)
  · rw [if_neg he]
    have heb : (askedE bs home l h g t (x0, x1, y0, y1) != 0) = true := by simp [he]
    generalize askedE bs home l h g t (x0, x1, y0, y1) = e at *
    clear hl he
    (unfold Gives; go_enter Tryz.func27, Tryz.ntmps27)
    go_wp2_with (go_at_call 42; refine (HA.out _ (by repeat (first | with_reducible exact Up.refl _ | with_reducible apply Up.plus | apply Up.ext | apply Up.alloc | apply Up.drew | (refine Up.setCell ?_ (by simp; try omega) _)))).mono ?_; intro _)
    (refine forgetW (fun WF => Up w WF ∧ Box WF (w.heap.size + 1 + 1 + 1) #[.int .i64 zA.1, .int .i64 zA.2.1, .int .i64 zA.2.2.1, .int .i64 zA.2.2.2] 30) ⟨(by repeat (first | with_reducible exact Up.refl _ | with_reducible apply Up.plus | apply Up.ext | apply Up.alloc | apply Up.drew | (refine Up.setCell ?_ (by simp; try omega) _))), (by repeat (first | exact Box.mk rfl | (refine Box.mk ?_; simp; done) | apply Box.ext | apply Box.drew | apply Box.alloc | apply Box.two1 | (refine Box.other ?_ (by omega) _ _)))⟩ ?_; rintro WF ⟨huF, hbF⟩; have zF0 := hbF.cell 0 rfl; have zF1 := hbF.cell 1 rfl; have zF2 := hbF.cell 2 rfl; have zF3 := hbF.cell 3 rfl; (refine bodyPost_give huF rfl ⟨_, (by simp [results, Tryz.results27, go_sem, zF0, zF1, zF2, zF3]; rfl), ?_⟩); rfl)
set_option maxRecDepth 100000 in
set_option maxHeartbeats 2000000 in
theorem g_Heat {K : Nat → Prop} {w : World} {a : Option Addr} {n c : Nat} {bs : List Bod} {home : Int} (hl : Bods K w (.slice a n c) bs) (hh : I64 home) (l h : Sp) (g t : Int) (x : Ar) :
    Gives Tryz.prog 29 #[.agg #[.slice a n c, .int .i64 home], .agg #[.int .i64 l.1, .int .i64 l.2, .int .i64 h.1, .int .i64 h.2, .int .i64 g], .int .i64 t, .agg #[.int .i64 x.1, .int .i64 x.2.1, .int .i64 x.2.2.1, .int .i64 x.2.2.2]] w (.tuple #[.agg #[.int .i64 ((heatV bs home l h g t x).1).1, .int .i64 ((heatV bs home l h g t x).1).2.1, .int .i64 ((heatV bs home l h g t x).1).2.2.1, .int .i64 ((heatV bs home l h g t x).1).2.2.2], .int .i64 (heatV bs home l h g t x).2]) := by
  obtain ⟨x0, x1, y0, y1⟩ := x
  have HA := hide (fun W (hu : Up w W) => g_asked (hl.keeps (hu.keeps K)) hh l h g t x0 x1 y0 y1)
  unfold heatV
  by_cases he : askedE bs home l h g t (x0, x1, y0, y1) = 0
  · rw [if_pos he]
    obtain ⟨h1, _, ⟨h2, h3⟩, _⟩ := asked_zero he
    rw [he] at HA
    have hi : 0 < bs.length := List.length_pos_iff.2 (worldE_zero h1).1
    have K1 := hide (fun W (hu : Up w W) => g_one (hl.keeps (hu.keeps K)) hh h1 (i := 0) (b := bs[0]) (List.getElem?_eq_getElem hi) h2 h3 x0 x1 y0 y1)
    rw [show bs.getD 0 ⟨0, 0, []⟩ = bs[0] by simp [List.getD, List.getElem?_eq_getElem hi]]
    generalize pullB t (x0, x1, y0, y1) bs[0] = R at *
    obtain ⟨R1, R2, R3, R4⟩ := R
    obtain ⟨k1, k2⟩ := h
    have K3 := hide (fun W => g_thousandth k1 k2 R3 R4 W)
    have K4 := hide (fun W => g_thousandth k1 k2 R1 R2 W)
    have b1 := part_bd (k1, k2) (R3, R4)
    obtain ⟨u1, u2, hu⟩ : ∃ u1 u2, partP (k1, k2) (R3, R4) = (u1, u2) := ⟨_, _, rfl⟩
    obtain ⟨v1, v2, hv⟩ : ∃ v1 v2, partP (k1, k2) (R1, R2) = (v1, v2) := ⟨_, _, rfl⟩
    rw [hu] at K3 b1
    rw [hv] at K4
    simp only at b1 K3 K4
    have HS := hide (show heatP (k1, k2) (R1, R2, R3, R4) = (-u2, -u1, v1, v2) by unfold heatP arX arY; simp only; rw [hu, hv]; rfl)
    clear hl he h1 hi hu hv
    dsimp only at HA
    (unfold Gives; go_enter Tryz.func29, Tryz.ntmps29)
    go_wp2_with (first | (go_at_call 42; refine (HA.out _ (by repeat (first | with_reducible exact Up.refl _ | with_reducible apply Up.plus | apply Up.ext | apply Up.alloc | apply Up.drew | (refine Up.setCell ?_ (by simp; try omega) _)))).mono ?_; intro _) | (go_at_call 43; refine (K1.out _ (by repeat (first | with_reducible exact Up.refl _ | with_reducible apply Up.plus | apply Up.ext | apply Up.alloc | apply Up.drew | (refine Up.setCell ?_ (by simp; try omega) _)))).mono ?_; intro _))
    ((first | with_reducible refine wp_region_ext_tail2 2 (by kernel_rfl) (by kernel_rfl) ?_ | refine wp_region_ext_tail 2 (by kernel_rfl) (by kernel_rfl) ?_); simp only [List.length_cons, List.length_nil, Nat.reduceAdd, Nat.reduceSub, List.take_succ_cons, List.take_zero, List.drop_succ_cons, List.drop_zero]; (repeat (go_big_quiet_step ((first | (go_at_call 56; with_reducible exact Gives.inRegion (K3.out _)) | (go_at_call 56; with_reducible exact Gives.inRegion (K4.out _)) | (go_at_call 55; with_reducible exact Gives.inRegion (g_minus _ _ (by omega) (by omega) (by omega) (by omega) _)))))); refine wpQuiet_nil ?_; intro _ hw'; obtain ⟨_, hw''⟩ := hw'; subst hw'')
    go_wp2
    rw [HS.out]
    (refine forgetW (fun WF => Up w WF ∧ Box WF (w.heap.size + 1 + 1 + 1) #[.int .i64 ((-u2, -u1, v1, v2) : Ar).1, .int .i64 ((-u2, -u1, v1, v2) : Ar).2.1, .int .i64 ((-u2, -u1, v1, v2) : Ar).2.2.1, .int .i64 ((-u2, -u1, v1, v2) : Ar).2.2.2] 30) ⟨(by repeat (first | with_reducible exact Up.refl _ | with_reducible apply Up.plus | apply Up.ext | apply Up.alloc | apply Up.drew | (refine Up.setCell ?_ (by simp; try omega) _))), (by repeat (first | exact Box.mk rfl | (refine Box.mk ?_; simp; done) | apply Box.ext | apply Box.drew | apply Box.alloc | apply Box.two1 | (refine Box.other ?_ (by omega) _ _)))⟩ ?_; rintro WF ⟨huF, hbF⟩; have zF0 := hbF.cell 0 rfl; have zF1 := hbF.cell 1 rfl; have zF2 := hbF.cell 2 rfl; have zF3 := hbF.cell 3 rfl; (refine bodyPost_give huF rfl ⟨_, (by simp [results, Tryz.results29, go_sem, zF0, zF1, zF2, zF3]; rfl), ?_⟩); rfl)
  · rw [if_neg he]
    have heb : (askedE bs home l h g t (x0, x1, y0, y1) != 0) = true := by simp [he]
    generalize askedE bs home l h g t (x0, x1, y0, y1) = e at *
    clear hl he
    (unfold Gives; go_enter Tryz.func29, Tryz.ntmps29)
    go_wp2_with (go_at_call 42; refine (HA.out _ (by repeat (first | with_reducible exact Up.refl _ | with_reducible apply Up.plus | apply Up.ext | apply Up.alloc | apply Up.drew | (refine Up.setCell ?_ (by simp; try omega) _)))).mono ?_; intro _)
    (refine forgetW (fun WF => Up w WF ∧ Box WF (w.heap.size + 1 + 1 + 1) #[.int .i64 zA.1, .int .i64 zA.2.1, .int .i64 zA.2.2.1, .int .i64 zA.2.2.2] 30) ⟨(by repeat (first | with_reducible exact Up.refl _ | with_reducible apply Up.plus | apply Up.ext | apply Up.alloc | apply Up.drew | (refine Up.setCell ?_ (by simp; try omega) _))), (by repeat (first | exact Box.mk rfl | (refine Box.mk ?_; simp; done) | apply Box.ext | apply Box.drew | apply Box.alloc | apply Box.two1 | (refine Box.other ?_ (by omega) _ _)))⟩ ?_; rintro WF ⟨huF, hbF⟩; have zF0 := hbF.cell 0 rfl; have zF1 := hbF.cell 1 rfl; have zF2 := hbF.cell 2 rfl; have zF3 := hbF.cell 3 rfl; (refine bodyPost_give huF rfl ⟨_, (by simp [results, Tryz.results29, go_sem, zF0, zF1, zF2, zF3]; rfl), ?_⟩); rfl)
end Go.Proofs.YtbcgdhldkanecaaGreat

/- The reference of package force: the energy of a state. Conditions: what lies in memory. -/
namespace Go.Proofs.YtbcgdhldkanecaaGreat
set_option linter.unusedVariables false
set_option linter.unusedSimpArgs false
open Go.RowKit Go.Shelf

/-- what a round of the reference's loop calls, with letters for the values -/
theorem g_round {K : Nat → Prop} {w : World} {a : Option Addr} {n c : Nat} {bs : List Bod} {home t x y : Int} (hl : Bods K w (.slice a n c) bs) (hh : I64 home) (h1 : worldE bs home = 0) (t0 : 0 ≤ t) (t1 : t ≤ 1073741824) {i : Nat} (hi : i < n) :
    ∃ (b : Bod) (bb bo tn tc : Nat) (ta : Option Addr) (mu rd p1 p2 v1 v2 v3 v4 s1 s2 r1 r2 k1 k2 : Int), a = some ⟨bb, bo, none⟩ ∧ bs[i]? = some b ∧ bb < w.heap.size ∧
      (w.cell? ⟨bb, bo + i * 3, none⟩ = some (.int .i64 mu) ∧ w.cell? ⟨bb, bo + i * 3 + 1, none⟩ = some (.int .i64 rd) ∧ w.cell? ⟨bb, bo + i * 3 + 2, none⟩ = some (.slice ta tn tc)) ∧
      (∀ W, Up w W → Gives Tryz.prog 63 #[.agg #[.slice a n c, .int .i64 home], .int .i64 i, .int .i64 t] W (.agg #[.int .i64 (p1), .int .i64 (p2)])) ∧
      (∀ W, Gives Tryz.prog 62 #[.agg #[.int .i64 (p1), .int .i64 (p2)], .agg #[.int .i64 (x), .int .i64 (x), .int .i64 (y), .int .i64 (y)]] W (.tuple #[.agg #[.int .i64 (v1), .int .i64 (v2)], .agg #[.int .i64 (v3), .int .i64 (v4)]])) ∧
      (∀ W, Gives Tryz.prog 64 #[.agg #[.int .i64 mu, .int .i64 rd, .slice ta tn tc], .agg #[.int .i64 (v1), .int .i64 (v2)], .agg #[.int .i64 (v3), .int .i64 (v4)]] W (.tuple #[.agg #[.int .i64 (s1), .int .i64 (s2)], .agg #[.int .i64 (r1), .int .i64 (r2)]])) ∧
      (∀ W, Gives Tryz.prog 65 #[.agg #[.int .i64 (mu), .int .i64 (mu)], .agg #[.int .i64 (r1), .int .i64 (r2)]] W (.agg #[.int .i64 (k1), .int .i64 (k2)])) ∧ quotP (b.mu, b.mu) (distP b.radius (toP (placeV b t) (x, x, y, y))) = (k1, k2) := by
  obtain ⟨bb, bo, b, ta, tn, tc, rfl, _, hbl, hb, _, d0, d1, d2, _⟩ := (Bods.at hl).2.2 i hi
  have hbd := bodyE_zero ((worldE_zero h1).2.2.1 _ (List.mem_of_getElem? hb))
  refine ⟨b, bb, bo, tn, tc, ta, b.mu, b.radius, (placeV b t).1, (placeV b t).2, _, _, _, _, _, _, _, _, _, _, rfl, hb, hbl, ⟨d0, d1, d2⟩, fun W hu => sAt_of (hl.keeps (hu.keeps K)) hh h1 hb t0 t1, fun W => g_to _ _ x x y y W, fun W => g_dist b.mu b.radius (.slice ta tn tc) _ _ _ _ hbd.2.1.1 hbd.2.1.2 W, fun W => g_quotient4 b.mu b.mu _ _ W, rfl⟩

set_option maxRecDepth 100000 in
set_option maxHeartbeats 4000000 in
theorem g_Energy_in {K : Nat → Prop} {w : World} {a : Option Addr} {n c : Nat} {bs : List Bod} {home : Int} (hl : Bods K w (.slice a n c) bs) (hh : I64 home) (t x y u v : Int) (he : askedE bs home (0, 0) (0, 0) 0 t (x, x, y, y) = 0)
    (hu0 : withinB u (-1048576) 1048576 = true) (hv0 : withinB v (-1048576) 1048576 = true) :
    Gives Tryz.prog 31 #[.agg #[.slice a n c, .int .i64 home], .int .i64 t, .agg #[.int .i64 (x), .int .i64 (y), .int .i64 (u), .int .i64 (v)]] w (.tuple #[.agg #[.int .i64 (energyP bs t (x, x, y, y) (u * u + v * v)).1, .int .i64 (energyP bs t (x, x, y, y) (u * u + v * v)).2], .int .i64 0]) := by
  obtain ⟨h1, _, ⟨t0, t1⟩, _⟩ := asked_zero he
  have hbd : (-1048576 ≤ u ∧ u ≤ 1048576) ∧ -1048576 ≤ v ∧ v ≤ 1048576 := ⟨within_bd hu0, within_bd hv0⟩
  have m1 := mul_bd (x := u) (y := u) (B := 1048576) (C := 1048576) hbd.1.1 hbd.1.2 hbd.1.1 hbd.1.2
  have m2 := mul_bd (x := v) (y := v) (B := 1048576) (C := 1048576) hbd.2.1 hbd.2.2 hbd.2.1 hbd.2.2
  have hn := (Bods.at hl).1
  have HA := hide (fun W (hu : Up w W) => g_asked (hl.keeps (hu.keeps _)) hh (0, 0) (0, 0) 0 t x x y y)
  rw [he] at HA
  have HW1 := hide (fun W => g_between u (-1048576) 1048576 W)
  have HW2 := hide (fun W => g_between v (-1048576) 1048576 W)
  rw [hu0] at HW1
  rw [hv0] at HW2
  have KR := hide (fun (i : Nat) (hi : i < n) W (hu : Up w W) => g_round (x := x) (y := y) (hl.keeps (hu.keeps K)) hh h1 t0 t1 hi)
  have hn8 : n ≤ 8 := by rw [hn]; exact (worldE_zero h1).2.1
  have HN := hide hn
  have HM := hide (And.intro m1 m2)
  clear hl hu0 hv0 he h1 hbd hn m1 m2
  rw [energyP_take]
  obtain ⟨f, hf⟩ : ∃ f : Sp → Bod → Sp, (fun o b => subP o (addP (takeP t (x, x, y, y) b) (takeP t (x, x, y, y) b))) = f := ⟨_, rfl⟩
  rw [hf]
  have HF := hide hf
  clear hf
  (unfold Gives; go_enter Tryz.func31, Tryz.ntmps31)
  go_wp2_with fail
  go_at_call 54
  refine (g_at _ _ _).mono ?_
  intro p1
  go_wp2_with fail
  go_at_call 42
  refine (HA.out _ (by repeat (first | with_reducible exact Up.refl _ | with_reducible apply Up.plus | apply Up.ext | apply Up.alloc | apply Up.drew | (refine Up.setCell ?_ (by simp; try omega) _)))).mono ?_
  intro p2
  obtain ⟨m1, m2⟩ := HM.out
  go_wp2_with fail
  go_at_call 47
  refine (HW1.out _).mono ?_
  intro p3
  go_wp2_with fail
  go_at_call 47
  refine (HW2.out _).mono ?_
  intro p4
  go_wp2_with fail
  obtain ⟨A8, hA8⟩ : ∃ T, w.heap.size + 1 + 1 + 1 + p1.os.size = T := ⟨_, rfl⟩
  rw [hA8]
  obtain ⟨O, hO⟩ : ∃ T, A8 + 1 + ((p2.plus p3).plus p4).os.size = T := ⟨_, rfl⟩
  rw [hO]
  have hA8l : w.heap.size + 1 + 1 < A8 := by omega
  have hOl : A8 < O := by omega
  obtain ⟨m, hmm⟩ : ∃ m, u * u + v * v = m := ⟨_, rfl⟩
  rw [hmm]
  have HMM := hide hmm
  clear hmm
  refine forgetW (fun V => Up w V ∧ Box V w.heap.size #[.slice a n c, .int .i64 home] 24 ∧ Box V (w.heap.size + 1 + 1) #[.int .i64 (0), .int .i64 (0)] 26 ∧ Box V A8 #[.int .i64 (x), .int .i64 (x), .int .i64 (y), .int .i64 (y)] 30 ∧ Box V O #[.int .i64 (m), .int .i64 (m)] 26) ⟨(by repeat (first | with_reducible exact Up.refl _ | with_reducible apply Up.plus | apply Up.ext | apply Up.alloc | apply Up.drew | (refine Up.setCell ?_ (by simp; try omega) _))), (by repeat (first | exact Box.mk rfl | (refine Box.mk ?_; simp; done) | apply Box.ext | apply Box.drew | apply Box.alloc | apply Box.two1 | (refine Box.other ?_ (by omega) _ _))), (by repeat (first | exact Box.mk rfl | (refine Box.mk ?_; simp; done) | apply Box.ext | apply Box.drew | apply Box.alloc | apply Box.two1 | (refine Box.other ?_ (by omega) _ _))), by rw [← hA8]; exact (by repeat (first | exact Box.mk rfl | (refine Box.mk ?_; simp; done) | apply Box.ext | apply Box.drew | apply Box.alloc | apply Box.two1 | (refine Box.other ?_ (by omega) _ _))), by rw [← hO, ← hA8]; exact (by repeat (first | exact Box.mk rfl | (refine Box.mk ?_; simp; done) | apply Box.ext | apply Box.drew | apply Box.alloc | apply Box.two1 | (refine Box.other ?_ (by omega) _ _)))⟩ ?_
  rintro V ⟨hu, bw, bz, ba, bo⟩
  have hS := hide (show Up w V ∧ Box V w.heap.size #[.slice a n c, .int .i64 home] 24 ∧ Box V (w.heap.size + 1 + 1) #[.int .i64 (0), .int .i64 (0)] 26 ∧ Box V A8 #[.int .i64 (x), .int .i64 (x), .int .i64 (y), .int .i64 (y)] 30 ∧ ∃ o : Sp, (bs.take 0).foldl f (m, m) = o ∧ Box V O #[.int .i64 o.1, .int .i64 o.2] 26 from ⟨hu, bw, bz, ba, (m, m), rfl, bo⟩)
  clear hA8 hO hu bw bz ba bo HA HW1 HW2 m1 m2
  go_loopw [12] (fun s wr => ∃ i : Nat, s = .int .i64 i ∧ i ≤ n ∧ Hid (Up w wr ∧ Box wr w.heap.size #[.slice a n c, .int .i64 home] 24 ∧ Box wr (w.heap.size + 1 + 1) #[.int .i64 (0), .int .i64 (0)] 26 ∧ Box wr A8 #[.int .i64 (x), .int .i64 (x), .int .i64 (y), .int .i64 (y)] 30 ∧ ∃ o : Sp, (bs.take i).foldl f (m, m) = o ∧ Box wr O #[.int .i64 o.1, .int .i64 o.2] 26)) (fun s _ => n - (intOf s).toNat)
  case atStart => exact ⟨0, by go_num, by omega, hS⟩
  case round =>
    obtain ⟨i, rfl, hi, hJ⟩ := hrel
    clear hS
    obtain ⟨hu, bw, bz, ba, ⟨o1, o2⟩, ho, bo⟩ := hJ.out
    have cw0 := bw.cell 0 rfl
    have cw1 := bw.cell 1 rfl
    have lcw := bw.lt
    by_cases hlt : i < n
    · have hib : decide ((i : Int) < n) = true := by simp; omega
      have hin : decide (i < n) = true := by simp; omega
      obtain ⟨b, bb, bq, tn, tc, ta, mu, rd, p1, p2, v1, v2, v3, v4, s1, s2, r1, r2, k1, k2, ea, hb, hbl, ⟨d0, d1, d2⟩, KA, KT, KD, KQ, hq⟩ := KR.out i hlt wr hu
      subst ea
      have HA := hide KA
      have HT := hide KT
      have HD := hide KD
      have HQ := hide KQ
      have HE := hide (show (bs.take (i + 1)).foldl f (m, m) = subP (o1, o2) (addP (k1, k2) (k1, k2)) by
        rw [List.take_add_one, hb]
        simp only [Option.toList_some, List.foldl_append, List.foldl_cons, List.foldl_nil]
        rw [ho, ← HF.out]
        simp only [takeP]
        rw [hq])
      have HB := hide (And.intro hu (And.intro bw (And.intro bz (And.intro ba bo))))
      clear hJ hu bw bz ba bo KA KT KD KQ hb ho hq
      go_wp2_with fail
      refine forgetW (fun Z => Up wr Z ∧ Box Z wr.heap.size #[.int .i64 mu, .int .i64 rd, .slice ta tn tc] 73) ⟨(by repeat (first | with_reducible exact Up.refl _ | with_reducible apply Up.plus | apply Up.ext | apply Up.alloc | apply Up.drew | (refine Up.setCell ?_ (by simp; try omega) _))), Box.mk rfl⟩ ?_
      rintro Z ⟨hZ, b13⟩
      clear d0 d1 d2 hbl cw0 cw1 lcw
      have bw := HB.out.2.1.up hZ
      have ba := HB.out.2.2.2.1.up hZ
      have cw0 := bw.cell 0 rfl
      have cw1 := bw.cell 1 rfl
      have lcw := bw.lt
      have ca0 := ba.cell 0 rfl
      have ca1 := ba.cell 1 rfl
      have ca2 := ba.cell 2 rfl
      have ca3 := ba.cell 3 rfl
      have lca := ba.lt
      have hOw := HB.out.2.2.2.2.lt
      have HZ := hide (And.intro hZ b13)
      clear hZ b13 bw ba
      refine wp_region_floatz (al := [(9, 14, #[.int .i64 (0), .int .i64 (0)], 26), (10, 15, #[.int .i64 (0), .int .i64 (0)], 26)]) (mv := fun _ => false) 8 [11, 12] [0, 1, 2, 3, 4, 5, 6, 7, 8] (by kernel_rfl) (by kernel_rfl) rfl (fun _ => rfl) (fun _ _ _ _ h => h) (makes2 ⟨_, rfl, rfl, fun _ => rfl, fun _ _ => by simp [go_sem]⟩ ⟨_, rfl, rfl, fun _ => rfl, fun _ _ => by simp [go_sem]⟩) (cls_ext _) (by first | exact drew_in2 _ _ | exact drew_in _) (Nat.le_refl _) ?_
      simp only [withOps, List.filterMap_cons, List.filterMap_nil, List.getElem?_toArray, List.getElem?_cons_zero, List.getElem?_cons_succ, Option.map_some]
      (repeat (first | (apply walkF_pure (base := fun p : Ext => ext _ p) rfl rfl rfl (by kernel_rfl); · (intro px K hK; go_big_quiet_op; first | exact hK | (apply Exists.intro; refine ⟨fun _ => ?_, ?_⟩; (· ((first | (go_at_call 63; with_reducible exact Gives.inFloat (HA.out _ (Up.ext HZ.out.1 _))) | (go_at_call 62; with_reducible exact Gives.inFloat (HT.out _))))); exact hK))) | (apply walkF_skip rfl; simp only [Act.put, List.setIfInBounds_toArray, List.set_cons_zero, List.set_cons_succ])))
      refine walkF_lazy (.agg #[.int .i64 (v3), .int .i64 (v4)]) rfl rfl (fun _ => by simp [go_sem]) ?_
      simp only [Act.put, List.setIfInBounds_toArray, List.set_cons_zero, List.set_cons_succ]
      refine walkF_nil (end2 (by decide) (fun g1 g2 W2 hg1 hg2 hg12 hW2 z1 z2 => ?_))
      simp only [Act.put, List.setIfInBounds_toArray, List.set_cons_zero, List.set_cons_succ]
      (try simp only [List.filterMap_cons, List.filterMap_nil, List.getElem?_toArray, List.getElem?_cons_zero, List.getElem?_cons_succ])
      have hU : Up Z W2 := hW2
      clear cw0 cw1 lcw ca0 ca1 ca2 ca3 lca
      have bb2 := HZ.out.2.up hU
      have kc0 := bb2.cell 0 rfl
      have kc1 := bb2.cell 1 rfl
      have kc2 := bb2.cell 2 rfl
      have lk := bb2.lt
      have xc0 := z1.cell 0 rfl
      have xc1 := z1.cell 1 rfl
      have lx := z1.lt
      have fx0 := z1.frozen 0
      have fx1 := z1.frozen 1
      have yc0 := z2.cell 0 rfl
      have yc1 := z2.cell 1 rfl
      have ly := z2.lt
      have fy0 := z2.frozen 0
      have fy1 := z2.frozen 1
      have hZl := HZ.out.2.lt
      have n1 : wr.heap.size ≠ g1 := by omega
      have n2 : wr.heap.size ≠ g2 := by omega
      have n5 : g2 ≠ g1 := fun e => hg12 e.symm
      have HY := hide (And.intro (HZ.out.1.trans hU) (And.intro bb2 (And.intro z1 z2)))
      clear hU hW2 bb2 z1 z2 HZ
      go_wp2_with fail
      go_at_call 64
      refine forgetE (fun V => Up wr V ∧ Box V wr.heap.size #[.int .i64 mu, .int .i64 rd, .slice ta tn tc] 73) ⟨?_, ?_⟩ ?_
      · exact (by repeat (first | with_reducible exact HY.out.1 | with_reducible exact Up.refl _ | with_reducible apply Up.ext | with_reducible apply Up.alloc | with_reducible apply Up.drew | (with_reducible refine Up.setCell ?_ (by simp only; omega) _)))
      · exact (by repeat (first | with_reducible exact HY.out.2.1 | with_reducible apply Box.ext | with_reducible apply Box.alloc | with_reducible apply Box.drew | (with_reducible refine Box.other ?_ (by omega) _ _)))
      rintro V ⟨hV, b13⟩
      clear HY kc0 kc1 kc2 lk xc0 xc1 lx fx0 fx1 yc0 yc1 ly fy0 fy1 n1 n2 n5
      refine (HD.out _).mono ?_
      intro pd
      have kc0 := b13.cell 0 rfl
      have kc1 := b13.cell 1 rfl
      have kc2 := b13.cell 2 rfl
      have lk := b13.lt
      have bo := HB.out.2.2.2.2.up hV
      have co0 := bo.cell 0 rfl
      have co1 := bo.cell 1 rfl
      have lco := bo.lt
      have fco0 := bo.frozen 0
      have fco1 := bo.frozen 1
      have HV := hide (And.intro hV bo)
      clear hV bo b13
      go_wp2_with fail
      go_at_call 65
      refine (HQ.out _).mono ?_
      intro pe
      go_wp2_with fail
      ((first | with_reducible refine wp_region_ext_tail2 1 (by kernel_rfl) (by kernel_rfl) ?_ | refine wp_region_ext_tail 1 (by kernel_rfl) (by kernel_rfl) ?_); simp only [List.length_cons, List.length_nil, Nat.reduceAdd, Nat.reduceSub, List.take_succ_cons, List.take_zero, List.drop_succ_cons, List.drop_zero]; (repeat (go_big_quiet_step ((first | (go_at_call 52; with_reducible exact Gives.inRegion (g_sum4 _ _ _ _ _)) | (go_at_call 66; with_reducible exact Gives.inRegion (g_less4 _ _ _ _ _)))))); refine wpQuiet_nil ?_; intro _ hw'; obtain ⟨_, hw''⟩ := hw'; subst hw'')
      go_wp2_with fail
      go_roundw
      case rel =>
        have hlw := HB.out.1.below.size
        refine ⟨i + 1, by go_num, by omega, hide ⟨?_, ?_, ?_, ?_, _, HE.out, ?_⟩⟩
        · exact (by repeat (first | with_reducible exact (HB.out.1.trans HV.out.1) | with_reducible exact Up.refl _ | with_reducible apply Up.ext | with_reducible apply Up.alloc | with_reducible apply Up.drew | (with_reducible refine Up.setCell ?_ (by simp only; omega) _)))
        · exact (by repeat (first | with_reducible exact (HB.out.2.1.up HV.out.1) | with_reducible apply Box.ext | with_reducible apply Box.alloc | with_reducible apply Box.drew | (with_reducible refine Box.other ?_ (by omega) _ _)))
        · exact (by repeat (first | with_reducible exact (HB.out.2.2.1.up HV.out.1) | with_reducible apply Box.ext | with_reducible apply Box.alloc | with_reducible apply Box.drew | (with_reducible refine Box.other ?_ (by omega) _ _)))
        · exact (by repeat (first | with_reducible exact (HB.out.2.2.2.1.up HV.out.1) | with_reducible apply Box.ext | with_reducible apply Box.alloc | with_reducible apply Box.drew | (with_reducible refine Box.other ?_ (by omega) _ _)))
        · exact (by (repeat (first | with_reducible apply Box.ext | with_reducible apply Box.alloc | with_reducible apply Box.drew)); exact ((HV.out.2.set 0 (.int .i64 (subP (o1, o2) (addP (k1, k2) (k1, k2))).1)).set 1 (.int .i64 (subP (o1, o2) (addP (k1, k2) (k1, k2))).2)))
      case measure => simp [intOf]; omega
    · have hib : decide ((i : Int) < n) = false := by simp; omega
      have hin : decide (i < n) = false := by simp; omega
      rw [List.take_of_length_le (by rw [← HN.out]; omega)] at ho
      have b0 := bo.cell 0 rfl
      have b1 := bo.cell 1 rfl
      have lb := bo.lt
      have z0 := bz.cell 0 rfl
      have z1 := bz.cell 1 rfl
      have lz := bz.lt
      have fz0 := bz.frozen 0
      have fz1 := bz.frozen 1
      have HX := hide (And.intro hu bz)
      have HO := hide ho
      clear hJ hu bw bz ba bo ho
      go_wp2_with fail
      refine forgetW (fun WF => Up w WF ∧ Box WF (w.heap.size + 1 + 1) #[.int .i64 (o1), .int .i64 (o2)] 26) ⟨(by repeat (first | with_reducible exact HX.out.1 | with_reducible exact Up.refl _ | with_reducible apply Up.ext | with_reducible apply Up.alloc | with_reducible apply Up.drew | (with_reducible refine Up.setCell ?_ (by simp only; omega) _))), (by (repeat (first | with_reducible apply Box.ext | with_reducible apply Box.alloc | with_reducible apply Box.drew)); exact ((HX.out.2.set 0 (.int .i64 o1)).set 1 (.int .i64 o2)))⟩ ?_
      rintro WF ⟨huF, hbF⟩
      have zF0 := hbF.cell 0 rfl
      have zF1 := hbF.cell 1 rfl
      (refine bodyPost_give huF rfl ⟨_, (by simp [results, Tryz.results31, go_sem, zF0, zF1]; rfl), ?_⟩)
      rw [HMM.out, HO.out]
end Go.Proofs.YtbcgdhldkanecaaGreat

