/- Package force: the error of a question; the pull of one body. Conditions: what lies in memory. -/
import Derived.Test.YtbcgdhldkanecaaForceA
namespace Go.Proofs.Ytbcgdhldkanecaa
open Go.RowKit Go.Shelf

theorem ixsp (x0 x1 y0 y1 : Int) (w : World) : (Instr.index 113 (.agg #[.int .i64 x0, .int .i64 x1, .int .i64 y0, .int .i64 y1]) (.int .i64 0)).run Try.prog w = .ok (.agg #[.int .i64 x0, .int .i64 x1]) w := by kernel_rfl
theorem ixsp1 (x0 x1 y0 y1 : Int) (w : World) : (Instr.index 113 (.agg #[.int .i64 x0, .int .i64 x1, .int .i64 y0, .int .i64 y1]) (.int .i64 1)).run Try.prog w = .ok (.agg #[.int .i64 y0, .int .i64 y1]) w := by kernel_rfl

set_option maxHeartbeats 2000000 in
theorem fasked_any {K : Nat → Prop} {w : World} {a : Option Addr} {n c : Nat} {bs : List Bod} {home : Int} (hl : Bods K w (.slice a n c) bs) (hh : I64 home) (l h : Sp) (g t : Int) (x0 x1 y0 y1 : Int) :
    Gives Try.prog 43 #[.agg #[.slice a n c, .int .i64 home], .agg #[.int .i64 l.1, .int .i64 l.2, .int .i64 h.1, .int .i64 h.2, .int .i64 g], .int .i64 t, .agg #[.int .i64 x0, .int .i64 x1, .int .i64 y0, .int .i64 y1]] w
      (.int .i64 (askedE bs home l h g t (x0, x1, y0, y1))) := by
  have HW := hide (fun W (hu : Up w W) => skworld_any (hl.keeps (hu.keeps K)) hh)
  have HD := hide (fun W => fdrift_any l.1 l.2 h.1 h.2 g W)
  have HT := hide (fun W => fwithin_any t 0 1073741824 W)
  have HA := hide (fun W => checkarea_any x0 x1 y0 y1 W)
  clear hl
  unfold askedE
  by_cases e1 : worldE bs home = 0
  rotate_left
  · rw [if_neg e1]
    have e1b : (worldE bs home != 0) = true := by simp [e1]
    clear e1
    (unfold Gives; go_enter Try.func43, Try.ntmps43)
    go_wp2_with (go_at_call 39; refine (HW.out _ (by repeat (first | with_reducible exact Up.refl _ | with_reducible apply Up.plus | apply Up.ext | apply Up.alloc | apply Up.drew | (refine Up.setCell ?_ (by simp; try omega) _)))).mono ?_; intro _)
    go_ret
    exact ⟨rfl, (by repeat (first | with_reducible exact Up.refl _ | with_reducible apply Up.plus | apply Up.ext | apply Up.alloc | apply Up.drew | (refine Up.setCell ?_ (by simp; try omega) _)))⟩
  rw [if_pos e1]
  rw [e1] at HW
  clear e1
  by_cases e2 : driftE l h g = 0
  rotate_left
  · rw [if_neg e2]
    have e2b : (driftE l h g != 0) = true := by simp [e2]
    clear e2
    (unfold Gives; go_enter Try.func43, Try.ntmps43)
    go_wp2_with (first | (go_at_call 39; refine (HW.out _ (by repeat (first | with_reducible exact Up.refl _ | with_reducible apply Up.plus | apply Up.ext | apply Up.alloc | apply Up.drew | (refine Up.setCell ?_ (by simp; try omega) _)))).mono ?_; intro _) | (go_at_call 41; refine (HD.out _).mono ?_; intro _))
    go_ret
    exact ⟨rfl, (by repeat (first | with_reducible exact Up.refl _ | with_reducible apply Up.plus | apply Up.ext | apply Up.alloc | apply Up.drew | (refine Up.setCell ?_ (by simp; try omega) _)))⟩
  rw [if_pos e2]
  rw [e2] at HD
  clear e2
  rcases e3 : withinB t 0 1073741824 with _ | _
  · rw [e3] at HT
    clear e3
    simp only [Bool.false_eq_true, if_false]
    (unfold Gives; go_enter Try.func43, Try.ntmps43)
    go_wp2_with (first | (go_at_call 39; refine (HW.out _ (by repeat (first | with_reducible exact Up.refl _ | with_reducible apply Up.plus | apply Up.ext | apply Up.alloc | apply Up.drew | (refine Up.setCell ?_ (by simp; try omega) _)))).mono ?_; intro _) | (go_at_call 41; refine (HD.out _).mono ?_; intro _) | (go_at_call 56; refine (HT.out _).mono ?_; intro _))
    go_ret
    exact ⟨rfl, (by repeat (first | with_reducible exact Up.refl _ | with_reducible apply Up.plus | apply Up.ext | apply Up.alloc | apply Up.drew | (refine Up.setCell ?_ (by simp; try omega) _)))⟩
  rw [e3] at HT
  clear e3
  simp only [if_true]
  by_cases e4 : areaE x0 x1 y0 y1 = 0
  rotate_left
  · rw [if_neg e4]
    have e4b : (areaE x0 x1 y0 y1 != 0) = true := by simp [e4]
    clear e4
    (unfold Gives; go_enter Try.func43, Try.ntmps43)
    go_wp2_with (first | (go_at_call 39; refine (HW.out _ (by repeat (first | with_reducible exact Up.refl _ | with_reducible apply Up.plus | apply Up.ext | apply Up.alloc | apply Up.drew | (refine Up.setCell ?_ (by simp; try omega) _)))).mono ?_; intro _) | (go_at_call 41; refine (HD.out _).mono ?_; intro _) | (go_at_call 56; refine (HT.out _).mono ?_; intro _) | (go_at_call 67; refine (HA.out _).mono ?_; intro _))
    go_ret
    exact ⟨rfl, (by repeat (first | with_reducible exact Up.refl _ | with_reducible apply Up.plus | apply Up.ext | apply Up.alloc | apply Up.drew | (refine Up.setCell ?_ (by simp; try omega) _)))⟩
  rw [if_pos e4]
  rw [e4] at HA
  clear e4
  have i0 := fun w => ixsp x0 x1 y0 y1 w
  have i1 := fun w => ixsp1 x0 x1 y0 y1 w
  by_cases hx0 : x0 < -33554432
  · rw [if_neg (by simp [limB]; omega)]
    (unfold Gives; go_enter Try.func43, Try.ntmps43)
    go_wp2_with (first | (go_at_call 39; refine (HW.out _ (by repeat (first | with_reducible exact Up.refl _ | with_reducible apply Up.plus | apply Up.ext | apply Up.alloc | apply Up.drew | (refine Up.setCell ?_ (by simp; try omega) _)))).mono ?_; intro _) | (go_at_call 41; refine (HD.out _).mono ?_; intro _) | (go_at_call 56; refine (HT.out _).mono ?_; intro _) | (go_at_call 67; refine (HA.out _).mono ?_; intro _))
    refine wp_loop_rounds 3 ?_
    rw [rounds_succ]
    go_wp2
    go_ret
    exact ⟨rfl, (by repeat (first | with_reducible exact Up.refl _ | with_reducible apply Up.plus | apply Up.ext | apply Up.alloc | apply Up.drew | (refine Up.setCell ?_ (by simp; try omega) _)))⟩
  by_cases hx1 : 33554432 < x1
  · rw [if_neg (by simp [limB]; omega)]
    (unfold Gives; go_enter Try.func43, Try.ntmps43)
    go_wp2_with (first | (go_at_call 39; refine (HW.out _ (by repeat (first | with_reducible exact Up.refl _ | with_reducible apply Up.plus | apply Up.ext | apply Up.alloc | apply Up.drew | (refine Up.setCell ?_ (by simp; try omega) _)))).mono ?_; intro _) | (go_at_call 41; refine (HD.out _).mono ?_; intro _) | (go_at_call 56; refine (HT.out _).mono ?_; intro _) | (go_at_call 67; refine (HA.out _).mono ?_; intro _))
    refine wp_loop_rounds 3 ?_
    rw [rounds_succ]
    go_wp2
    go_ret
    exact ⟨rfl, (by repeat (first | with_reducible exact Up.refl _ | with_reducible apply Up.plus | apply Up.ext | apply Up.alloc | apply Up.drew | (refine Up.setCell ?_ (by simp; try omega) _)))⟩
  by_cases hy0 : y0 < -33554432
  · rw [if_neg (by simp [limB]; omega)]
    (unfold Gives; go_enter Try.func43, Try.ntmps43)
    go_wp2_with (first | (go_at_call 39; refine (HW.out _ (by repeat (first | with_reducible exact Up.refl _ | with_reducible apply Up.plus | apply Up.ext | apply Up.alloc | apply Up.drew | (refine Up.setCell ?_ (by simp; try omega) _)))).mono ?_; intro _) | (go_at_call 41; refine (HD.out _).mono ?_; intro _) | (go_at_call 56; refine (HT.out _).mono ?_; intro _) | (go_at_call 67; refine (HA.out _).mono ?_; intro _))
    refine wp_loop_rounds 3 ?_
    rw [rounds_succ]
    go_wp2
    rw [rounds_succ]
    go_wp2
    go_ret
    exact ⟨rfl, (by repeat (first | with_reducible exact Up.refl _ | with_reducible apply Up.plus | apply Up.ext | apply Up.alloc | apply Up.drew | (refine Up.setCell ?_ (by simp; try omega) _)))⟩
  by_cases hy1 : 33554432 < y1
  · rw [if_neg (by simp [limB]; omega)]
    (unfold Gives; go_enter Try.func43, Try.ntmps43)
    go_wp2_with (first | (go_at_call 39; refine (HW.out _ (by repeat (first | with_reducible exact Up.refl _ | with_reducible apply Up.plus | apply Up.ext | apply Up.alloc | apply Up.drew | (refine Up.setCell ?_ (by simp; try omega) _)))).mono ?_; intro _) | (go_at_call 41; refine (HD.out _).mono ?_; intro _) | (go_at_call 56; refine (HT.out _).mono ?_; intro _) | (go_at_call 67; refine (HA.out _).mono ?_; intro _))
    refine wp_loop_rounds 3 ?_
    rw [rounds_succ]
    go_wp2
    rw [rounds_succ]
    go_wp2
    go_ret
    exact ⟨rfl, (by repeat (first | with_reducible exact Up.refl _ | with_reducible apply Up.plus | apply Up.ext | apply Up.alloc | apply Up.drew | (refine Up.setCell ?_ (by simp; try omega) _)))⟩
  rw [if_pos (by simp [limB]; omega)]
  (unfold Gives; go_enter Try.func43, Try.ntmps43)
  go_wp2_with (first | (go_at_call 39; refine (HW.out _ (by repeat (first | with_reducible exact Up.refl _ | with_reducible apply Up.plus | apply Up.ext | apply Up.alloc | apply Up.drew | (refine Up.setCell ?_ (by simp; try omega) _)))).mono ?_; intro _) | (go_at_call 41; refine (HD.out _).mono ?_; intro _) | (go_at_call 56; refine (HT.out _).mono ?_; intro _) | (go_at_call 67; refine (HA.out _).mono ?_; intro _))
  refine wp_loop_rounds 3 ?_
  rw [rounds_succ]
  go_wp2
  rw [rounds_succ]
  go_wp2
  rw [rounds_succ]
  go_wp2
  go_ret
  exact ⟨rfl, (by repeat (first | with_reducible exact Up.refl _ | with_reducible apply Up.plus | apply Up.ext | apply Up.alloc | apply Up.drew | (refine Up.setCell ?_ (by simp; try omega) _)))⟩

theorem fedge_any (mu r : Int) (tv : Value) (x y : Int) (r0 : 0 ≤ r) (r1 : r ≤ 1048576) (w : World) : Gives Try.prog 74 #[.agg #[.int .i64 mu, .int .i64 r, tv, .int .i64 x, .int .i64 y]] w (.int .i64 (edgeV r)) := by
  have h1 : 0 ≤ r * r := Int.mul_nonneg r0 r0
  have h2 : r * r ≤ 1099511627776 := by have := Int.mul_le_mul r1 r1 r0 (by omega); omega
  (unfold Gives; go_enter Try.func74, Try.ntmps74)
  go_wp2
  try ((first | with_reducible refine wp_region_ext2 (by kernel_rfl) (by kernel_rfl) ?_ | refine wp_region_ext (by kernel_rfl) (by kernel_rfl) ?_); (repeat (go_big_quiet_step (fail))); refine wpQuiet_nil ?_; intro _ hw'; obtain ⟨_, hw''⟩ := hw'; subst hw'')
  go_wp2
  go_ret
  exact ⟨ret_int (by unfold edgeV; omega), (by repeat (first | with_reducible exact Up.refl _ | with_reducible apply Up.plus | apply Up.ext | apply Up.alloc | apply Up.drew | (refine Up.setCell ?_ (by simp; try omega) _)))⟩

set_option maxRecDepth 100000 in
theorem fto4 (mu r : Int) (tv : Value) (px py a b c d : Int) (w : World) : Gives Try.prog 69 #[.agg #[.int .i64 mu, .int .i64 r, tv, .int .i64 px, .int .i64 py], .agg #[.int .i64 a, .int .i64 b, .int .i64 c, .int .i64 d]] w
    (.agg #[.int .i64 (subP (px, px) (a, b)).1, .int .i64 (subP (px, px) (a, b)).2, .int .i64 (subP (py, py) (c, d)).1, .int .i64 (subP (py, py) (c, d)).2]) := by
  (unfold Gives; go_enter Try.func69, Try.ntmps69)
  go_wp2_with fail
  ((first | with_reducible refine wp_region_ext_tail2 1 (by kernel_rfl) (by kernel_rfl) ?_ | refine wp_region_ext_tail 1 (by kernel_rfl) (by kernel_rfl) ?_); simp only [List.length_cons, List.length_nil, Nat.reduceAdd, Nat.reduceSub, List.take_succ_cons, List.take_zero, List.drop_succ_cons, List.drop_zero]; (repeat (go_big_quiet_step ((first | (go_at_call 57; with_reducible exact Gives.inRegion (fone_any _ _)) | (go_at_call 60; with_reducible exact Gives.inRegion (fsub4 _ _ _ _ _)))))); refine wpQuiet_nil ?_; intro _ hw'; obtain ⟨_, hw''⟩ := hw'; subst hw'')
  go_wp2
  (refine bodyPost_give (by repeat (first | with_reducible exact Up.refl _ | with_reducible apply Up.plus | apply Up.ext | apply Up.alloc | apply Up.drew | (refine Up.setCell ?_ (by simp; try omega) _))) rfl ⟨_, (by simp [results, Try.results69, go_sem]; rfl), ?_⟩)
  rfl
theorem fto_any (mu r : Int) (tv : Value) (p : Sp) (a : Ar) (w : World) : Gives Try.prog 69 #[.agg #[.int .i64 mu, .int .i64 r, tv, .int .i64 p.1, .int .i64 p.2], .agg #[.int .i64 a.1, .int .i64 a.2.1, .int .i64 a.2.2.1, .int .i64 a.2.2.2]] w (.agg #[.int .i64 (toP p a).1, .int .i64 (toP p a).2.1, .int .i64 (toP p a).2.2.1, .int .i64 (toP p a).2.2.2]) := fto4 mu r tv p.1 p.2 a.1 a.2.1 a.2.2.1 a.2.2.2 w
end Go.Proofs.Ytbcgdhldkanecaa
