/- Several texts in one. -/
import Derived.Test.YtnaiaodnnmhdkaaGreatVC
/- Reference bolideref06: which offers are valid, whether a place is in the field. Conditions: what lies in memory. -/
namespace Go.Proofs.YtnaiaodnnmhdkaaGreat
set_option linter.unusedVariables false
set_option linter.unusedSimpArgs false
open Go.RowKit Go.Shelf

theorem vbetw_eq {n lo hi : Int} {b : Bool} (h : withinB n lo hi = b) (w : World) : Gives Tryz.prog 71 #[.int .i64 n, .int .i64 lo, .int .i64 hi] w (.bool b) := h ▸ vbetween_any n lo hi w
theorem biasV_is (l : List (Int × Int × Int)) (v : Int) : (biasV l v).2 = l.any fun x => x.1 == v := by
  unfold biasV
  cases hf : l.find? (fun x => x.1 == v) with
  | none =>
    have := List.find?_eq_none.1 hf
    symm
    rw [List.any_eq_false]
    intro x hx
    simpa using this x hx
  | some x =>
    symm
    rw [List.any_eq_true]
    exact ⟨x, List.mem_of_find?_eq_some hf, by simpa using List.find?_some hf⟩
theorem vhas_eq {K : Nat → Prop} {w : World} {a sa ca : Option Addr} {n c sn sc cn cc : Nat} {l : List (Int × Int × Int)} {home id : Int} {b : Bool} (hs : Tris K w (.slice sa sn sc) l) (h : (l.any fun x => x.1 == id) = b) :
    Gives Tryz.prog 128 #[.agg #[.slice a n c, .int .i64 home, .slice sa sn sc, .slice ca cn cc], .int .i64 id] w (.bool b) := h ▸ vhas_any hs id
theorem vbias_eq {K : Nat → Prop} {w : World} {a sa ca : Option Addr} {n c sn sc cn cc : Nat} {l : List (Int × Int × Int)} {home v b1 b2 : Int} {b : Bool} (hs : Tris K w (.slice ca cn cc) l) (h : biasV l v = ((b1, b2), b)) :
    Gives Tryz.prog 121 #[.agg #[.slice a n c, .int .i64 home, .slice sa sn sc, .slice ca cn cc], .int .i64 v] w (.tuple #[.agg #[.int .i64 (b1), .int .i64 (b2)], .bool b]) := by
  have := vbias_any (a := a) (n := n) (c := c) (sa := sa) (sn := sn) (sc := sc) (home := home) hs v
  rw [h] at this
  exact this
theorem cost_cases (x : Int) : (withinB x 0 1000 = true ∧ ¬ x < 0 ∧ ¬ 1000 < x) ∨ (withinB x 0 1000 = false ∧ x < 0) ∨ (withinB x 0 1000 = false ∧ ¬ x < 0 ∧ 1000 < x) := by
  unfold withinB
  by_cases h0 : x < 0
  · exact .inr (.inl ⟨decide_eq_false (by omega), h0⟩)
  · by_cases h1 : 1000 < x
    · exact .inr (.inr ⟨decide_eq_false (by omega), h0, h1⟩)
    · exact .inl ⟨decide_eq_true (by omega), h0, h1⟩
set_option maxRecDepth 100000 in
set_option maxHeartbeats 40000000 in
theorem voffer_any {K : Nat → Prop} {w : World} {a sa ca : Option Addr} {n c sn sc cn cc : Nat} {s : SkyD} (hL : SkyL K w a n c sa sn sc ca cn cc s) (o : OffD) : Gives Tryz.prog 67 #[.agg #[.slice a n c, .int .i64 s.home, .slice sa sn sc, .slice ca cn cc], .agg (offA o)] w (.int .i64 (offE0 s o)) := by
  have HS := hide (fun W (hu : Up w W) b (h : (s.stations.any fun x => x.1 == o.station) = b) => vhas_eq (a := a) (n := n) (c := c) (ca := ca) (cn := cn) (cc := cc) (home := s.home) (hL.up hu).st h)
  have HC := hide (fun W (hu : Up w W) b1 b2 b (h : biasV s.catalogs o.catalog = ((b1, b2), b)) => vbias_eq (a := a) (n := n) (c := c) (sa := sa) (sn := sn) (sc := sc) (home := s.home) (hL.up hu).ca h)
  generalize s.home = home at *
  clear hL
  by_cases k0 : o.kind ≠ 1 ∧ o.kind ≠ 2
  · have hE : offE0 s o = 4 := by unfold offE0; rw [if_pos k0]
    rw [hE]
    obtain ⟨k1, k2⟩ := k0
    have kb1 : (o.kind != 1) = true := by simp [k1]
    have kb2 : (o.kind != 2) = true := by simp [k2]
    clear hE
    (unfold Gives; go_enter Tryz.func67, Tryz.ntmps67)
    go_wp2_with fail
    go_ret
    exact ⟨rfl, (by repeat (first | with_reducible exact Up.refl _ | with_reducible apply Up.plus | apply Up.ext | apply Up.alloc | apply Up.drew | (refine Up.setCell ?_ (by simp; try omega) _)))⟩
  have hk : o.kind = 1 ∨ o.kind = 2 := by omega
  rcases hk with k | k
  · skip
    by_cases h1 : withinB o.tick 0 1073741824 = true
    rotate_left
    · replace h1 : withinB o.tick 0 1073741824 = false := Bool.eq_false_iff.2 h1
      have hE : offE0 s o = 2 := by unfold offE0; simp [k, h1]
      rw [hE]
      clear hE
      (unfold Gives; go_enter Tryz.func67, Tryz.ntmps67)
      go_wp2_with (first | (go_at_call 71; (with_reducible refine (vbetw_eq h1 _).mono ?_); intro _))
      go_ret
      exact ⟨rfl, (by repeat (first | with_reducible exact Up.refl _ | with_reducible apply Up.plus | apply Up.ext | apply Up.alloc | apply Up.drew | (refine Up.setCell ?_ (by simp; try omega) _)))⟩
    by_cases hst : (s.stations.any fun x => x.1 == o.station) = true
    rotate_left
    · replace hst : (s.stations.any fun x => x.1 == o.station) = false := Bool.eq_false_iff.2 hst
      have hE : offE0 s o = 7 := by unfold offE0; simp [k, h1, hst]
      rw [hE]
      clear hE
      (unfold Gives; go_enter Tryz.func67, Tryz.ntmps67)
      go_wp2_with (first | (go_at_call 71; (with_reducible refine (vbetw_eq h1 _).mono ?_); intro _) | (go_at_call 128; (with_reducible refine (HS.out _ (by repeat (first | with_reducible exact Up.refl _ | with_reducible apply Up.plus | apply Up.ext | apply Up.alloc | apply Up.drew | (refine Up.setCell ?_ (by simp; try omega) _))) _ hst).mono ?_); intro _))
      go_ret
      exact ⟨rfl, (by repeat (first | with_reducible exact Up.refl _ | with_reducible apply Up.plus | apply Up.ext | apply Up.alloc | apply Up.drew | (refine Up.setCell ?_ (by simp; try omega) _)))⟩
    by_cases h2 : withinB o.err 0 500000 = true
    rotate_left
    · replace h2 : withinB o.err 0 500000 = false := Bool.eq_false_iff.2 h2
      have hE : offE0 s o = 2 := by unfold offE0; simp [k, h1, hst, h2]
      rw [hE]
      clear hE
      (unfold Gives; go_enter Tryz.func67, Tryz.ntmps67)
      go_wp2_with (first | (go_at_call 71; (with_reducible refine (vbetw_eq h1 _).mono ?_); intro _) | (go_at_call 71; (with_reducible refine (vbetw_eq h2 _).mono ?_); intro _) | (go_at_call 128; (with_reducible refine (HS.out _ (by repeat (first | with_reducible exact Up.refl _ | with_reducible apply Up.plus | apply Up.ext | apply Up.alloc | apply Up.drew | (refine Up.setCell ?_ (by simp; try omega) _))) _ hst).mono ?_); intro _))
      go_ret
      exact ⟨rfl, (by repeat (first | with_reducible exact Up.refl _ | with_reducible apply Up.plus | apply Up.ext | apply Up.alloc | apply Up.drew | (refine Up.setCell ?_ (by simp; try omega) _)))⟩
    by_cases h3 : withinB o.far 1 134217728 = true
    rotate_left
    · replace h3 : withinB o.far 1 134217728 = false := Bool.eq_false_iff.2 h3
      have hE : offE0 s o = 2 := by unfold offE0; simp [k, h1, hst, h2, h3]
      rw [hE]
      clear hE
      (unfold Gives; go_enter Tryz.func67, Tryz.ntmps67)
      go_wp2_with (first | (go_at_call 71; (with_reducible refine (vbetw_eq h1 _).mono ?_); intro _) | (go_at_call 71; (with_reducible refine (vbetw_eq h2 _).mono ?_); intro _) | (go_at_call 71; (with_reducible refine (vbetw_eq h3 _).mono ?_); intro _) | (go_at_call 128; (with_reducible refine (HS.out _ (by repeat (first | with_reducible exact Up.refl _ | with_reducible apply Up.plus | apply Up.ext | apply Up.alloc | apply Up.drew | (refine Up.setCell ?_ (by simp; try omega) _))) _ hst).mono ?_); intro _))
      go_ret
      exact ⟨rfl, (by repeat (first | with_reducible exact Up.refl _ | with_reducible apply Up.plus | apply Up.ext | apply Up.alloc | apply Up.drew | (refine Up.setCell ?_ (by simp; try omega) _)))⟩
    rcases cost_cases o.cost with ⟨h4, g1, g2⟩ | ⟨h4, g1⟩ | ⟨h4, g1, g2⟩
    rotate_left
    · have hE : offE0 s o = 2 := by unfold offE0; simp [k, h1, hst, h2, h3, h4]
      rw [hE]
      clear hE
      (unfold Gives; go_enter Tryz.func67, Tryz.ntmps67)
      go_wp2_with (first | (go_at_call 71; (with_reducible refine (vbetw_eq h1 _).mono ?_); intro _) | (go_at_call 71; (with_reducible refine (vbetw_eq h2 _).mono ?_); intro _) | (go_at_call 71; (with_reducible refine (vbetw_eq h3 _).mono ?_); intro _) | (go_at_call 128; (with_reducible refine (HS.out _ (by repeat (first | with_reducible exact Up.refl _ | with_reducible apply Up.plus | apply Up.ext | apply Up.alloc | apply Up.drew | (refine Up.setCell ?_ (by simp; try omega) _))) _ hst).mono ?_); intro _))
      go_ret
      exact ⟨rfl, (by repeat (first | with_reducible exact Up.refl _ | with_reducible apply Up.plus | apply Up.ext | apply Up.alloc | apply Up.drew | (refine Up.setCell ?_ (by simp; try omega) _)))⟩
    · have hE : offE0 s o = 2 := by unfold offE0; simp [k, h1, hst, h2, h3, h4]
      rw [hE]
      clear hE
      (unfold Gives; go_enter Tryz.func67, Tryz.ntmps67)
      go_wp2_with (first | (go_at_call 71; (with_reducible refine (vbetw_eq h1 _).mono ?_); intro _) | (go_at_call 71; (with_reducible refine (vbetw_eq h2 _).mono ?_); intro _) | (go_at_call 71; (with_reducible refine (vbetw_eq h3 _).mono ?_); intro _) | (go_at_call 128; (with_reducible refine (HS.out _ (by repeat (first | with_reducible exact Up.refl _ | with_reducible apply Up.plus | apply Up.ext | apply Up.alloc | apply Up.drew | (refine Up.setCell ?_ (by simp; try omega) _))) _ hst).mono ?_); intro _))
      go_ret
      exact ⟨rfl, (by repeat (first | with_reducible exact Up.refl _ | with_reducible apply Up.plus | apply Up.ext | apply Up.alloc | apply Up.drew | (refine Up.setCell ?_ (by simp; try omega) _)))⟩
    obtain ⟨b1, hb1⟩ : ∃ x, (biasV s.catalogs o.catalog).1.1 = x := ⟨_, rfl⟩
    obtain ⟨b2, hb2⟩ : ∃ x, (biasV s.catalogs o.catalog).1.2 = x := ⟨_, rfl⟩
    have hb3 := biasV_is s.catalogs o.catalog
    by_cases hct : (s.catalogs.any fun x => x.1 == o.catalog) = true
    rotate_left
    · replace hct : (s.catalogs.any fun x => x.1 == o.catalog) = false := Bool.eq_false_iff.2 hct
      rw [hct] at hb3
      have hb : biasV s.catalogs o.catalog = ((b1, b2), false) := by rw [← hb1, ← hb2, ← hb3]
      have hE : offE0 s o = 7 := by unfold offE0; simp [k, h1, hst, h2, h3, h4, hct]
      rw [hE]
      clear hE hb1 hb2 hb3
      (unfold Gives; go_enter Tryz.func67, Tryz.ntmps67)
      go_wp2_with (first | (go_at_call 71; (with_reducible refine (vbetw_eq h1 _).mono ?_); intro _) | (go_at_call 71; (with_reducible refine (vbetw_eq h2 _).mono ?_); intro _) | (go_at_call 71; (with_reducible refine (vbetw_eq h3 _).mono ?_); intro _) | (go_at_call 128; (with_reducible refine (HS.out _ (by repeat (first | with_reducible exact Up.refl _ | with_reducible apply Up.plus | apply Up.ext | apply Up.alloc | apply Up.drew | (refine Up.setCell ?_ (by simp; try omega) _))) _ hst).mono ?_); intro _) | (go_at_call 121; (with_reducible refine (HC.out _ (by repeat (first | with_reducible exact Up.refl _ | with_reducible apply Up.plus | apply Up.ext | apply Up.alloc | apply Up.drew | (refine Up.setCell ?_ (by simp; try omega) _))) _ _ _ hb).mono ?_); intro _))
      go_ret
      exact ⟨rfl, (by repeat (first | with_reducible exact Up.refl _ | with_reducible apply Up.plus | apply Up.ext | apply Up.alloc | apply Up.drew | (refine Up.setCell ?_ (by simp; try omega) _)))⟩
    rw [hct] at hb3
    have hb : biasV s.catalogs o.catalog = ((b1, b2), true) := by rw [← hb1, ← hb2, ← hb3]
    clear hb1 hb2 hb3
    by_cases h5 : withinB o.dx (-4096) 4096 = true
    rotate_left
    · replace h5 : withinB o.dx (-4096) 4096 = false := Bool.eq_false_iff.2 h5
      have hE : offE0 s o = 2 := by unfold offE0; simp [k, h1, hst, h2, h3, h4, hct, h5]
      rw [hE]
      clear hE
      (unfold Gives; go_enter Tryz.func67, Tryz.ntmps67)
      go_wp2_with (first | (go_at_call 71; (with_reducible refine (vbetw_eq h1 _).mono ?_); intro _) | (go_at_call 71; (with_reducible refine (vbetw_eq h2 _).mono ?_); intro _) | (go_at_call 71; (with_reducible refine (vbetw_eq h3 _).mono ?_); intro _) | (go_at_call 71; (with_reducible refine (vbetw_eq h5 _).mono ?_); intro _) | (go_at_call 128; (with_reducible refine (HS.out _ (by repeat (first | with_reducible exact Up.refl _ | with_reducible apply Up.plus | apply Up.ext | apply Up.alloc | apply Up.drew | (refine Up.setCell ?_ (by simp; try omega) _))) _ hst).mono ?_); intro _) | (go_at_call 121; (with_reducible refine (HC.out _ (by repeat (first | with_reducible exact Up.refl _ | with_reducible apply Up.plus | apply Up.ext | apply Up.alloc | apply Up.drew | (refine Up.setCell ?_ (by simp; try omega) _))) _ _ _ hb).mono ?_); intro _))
      go_ret
      exact ⟨rfl, (by repeat (first | with_reducible exact Up.refl _ | with_reducible apply Up.plus | apply Up.ext | apply Up.alloc | apply Up.drew | (refine Up.setCell ?_ (by simp; try omega) _)))⟩
    by_cases h6 : withinB o.dy (-4096) 4096 = true
    rotate_left
    · replace h6 : withinB o.dy (-4096) 4096 = false := Bool.eq_false_iff.2 h6
      have hE : offE0 s o = 2 := by unfold offE0; simp [k, h1, hst, h2, h3, h4, hct, h5, h6]
      rw [hE]
      clear hE
      (unfold Gives; go_enter Tryz.func67, Tryz.ntmps67)
      go_wp2_with (first | (go_at_call 71; (with_reducible refine (vbetw_eq h1 _).mono ?_); intro _) | (go_at_call 71; (with_reducible refine (vbetw_eq h2 _).mono ?_); intro _) | (go_at_call 71; (with_reducible refine (vbetw_eq h3 _).mono ?_); intro _) | (go_at_call 71; (with_reducible refine (vbetw_eq h5 _).mono ?_); intro _) | (go_at_call 71; (with_reducible refine (vbetw_eq h6 _).mono ?_); intro _) | (go_at_call 128; (with_reducible refine (HS.out _ (by repeat (first | with_reducible exact Up.refl _ | with_reducible apply Up.plus | apply Up.ext | apply Up.alloc | apply Up.drew | (refine Up.setCell ?_ (by simp; try omega) _))) _ hst).mono ?_); intro _) | (go_at_call 121; (with_reducible refine (HC.out _ (by repeat (first | with_reducible exact Up.refl _ | with_reducible apply Up.plus | apply Up.ext | apply Up.alloc | apply Up.drew | (refine Up.setCell ?_ (by simp; try omega) _))) _ _ _ hb).mono ?_); intro _))
      go_ret
      exact ⟨rfl, (by repeat (first | with_reducible exact Up.refl _ | with_reducible apply Up.plus | apply Up.ext | apply Up.alloc | apply Up.drew | (refine Up.setCell ?_ (by simp; try omega) _)))⟩
    have hzz : (o.dx = 0 ∧ o.dy = 0) ∨ ¬ o.dx = 0 ∨ (o.dx = 0 ∧ ¬ o.dy = 0) := by omega
    rcases hzz with ⟨z1, z2⟩ | hz2
    · have hE : offE0 s o = 2 := by unfold offE0; simp [k, h1, hst, h2, h3, h4, hct, h5, h6, z1, z2]
      rw [hE]
      replace z1 : (o.dx == 0) = true := by simp [z1]
      replace z2 : (o.dy == 0) = true := by simp [z2]
      clear hE
      (unfold Gives; go_enter Tryz.func67, Tryz.ntmps67)
      go_wp2_with (first | (go_at_call 71; (with_reducible refine (vbetw_eq h1 _).mono ?_); intro _) | (go_at_call 71; (with_reducible refine (vbetw_eq h2 _).mono ?_); intro _) | (go_at_call 71; (with_reducible refine (vbetw_eq h3 _).mono ?_); intro _) | (go_at_call 71; (with_reducible refine (vbetw_eq h5 _).mono ?_); intro _) | (go_at_call 71; (with_reducible refine (vbetw_eq h6 _).mono ?_); intro _) | (go_at_call 128; (with_reducible refine (HS.out _ (by repeat (first | with_reducible exact Up.refl _ | with_reducible apply Up.plus | apply Up.ext | apply Up.alloc | apply Up.drew | (refine Up.setCell ?_ (by simp; try omega) _))) _ hst).mono ?_); intro _) | (go_at_call 121; (with_reducible refine (HC.out _ (by repeat (first | with_reducible exact Up.refl _ | with_reducible apply Up.plus | apply Up.ext | apply Up.alloc | apply Up.drew | (refine Up.setCell ?_ (by simp; try omega) _))) _ _ _ hb).mono ?_); intro _))
      go_ret
      exact ⟨rfl, (by repeat (first | with_reducible exact Up.refl _ | with_reducible apply Up.plus | apply Up.ext | apply Up.alloc | apply Up.drew | (refine Up.setCell ?_ (by simp; try omega) _)))⟩
    have hZ : (o.dx == 0 && o.dy == 0) = false := by rcases hz2 with h | ⟨h, h'⟩ <;> simp [h] <;> omega
    by_cases h7 : withinB o.wide 0 1000000 = true
    rotate_left
    · replace h7 : withinB o.wide 0 1000000 = false := Bool.eq_false_iff.2 h7
      have hE : offE0 s o = 2 := by unfold offE0; simp [k, h1, hst, h2, h3, h4, hct, h5, h6, h7, hZ]
      rw [hE]
      clear hE
      rcases hz2 with z1 | ⟨z1, z2⟩
      · replace z1 : (o.dx == 0) = false := by simp [z1]
        clear hZ
        (unfold Gives; go_enter Tryz.func67, Tryz.ntmps67)
        go_wp2_with (first | (go_at_call 71; (with_reducible refine (vbetw_eq h1 _).mono ?_); intro _) | (go_at_call 71; (with_reducible refine (vbetw_eq h2 _).mono ?_); intro _) | (go_at_call 71; (with_reducible refine (vbetw_eq h3 _).mono ?_); intro _) | (go_at_call 71; (with_reducible refine (vbetw_eq h5 _).mono ?_); intro _) | (go_at_call 71; (with_reducible refine (vbetw_eq h6 _).mono ?_); intro _) | (go_at_call 71; (with_reducible refine (vbetw_eq h7 _).mono ?_); intro _) | (go_at_call 128; (with_reducible refine (HS.out _ (by repeat (first | with_reducible exact Up.refl _ | with_reducible apply Up.plus | apply Up.ext | apply Up.alloc | apply Up.drew | (refine Up.setCell ?_ (by simp; try omega) _))) _ hst).mono ?_); intro _) | (go_at_call 121; (with_reducible refine (HC.out _ (by repeat (first | with_reducible exact Up.refl _ | with_reducible apply Up.plus | apply Up.ext | apply Up.alloc | apply Up.drew | (refine Up.setCell ?_ (by simp; try omega) _))) _ _ _ hb).mono ?_); intro _))
        go_ret
        exact ⟨rfl, (by repeat (first | with_reducible exact Up.refl _ | with_reducible apply Up.plus | apply Up.ext | apply Up.alloc | apply Up.drew | (refine Up.setCell ?_ (by simp; try omega) _)))⟩
      · replace z1 : (o.dx == 0) = true := by simp [z1]
        replace z2 : (o.dy == 0) = false := by simp [z2]
        clear hZ
        (unfold Gives; go_enter Tryz.func67, Tryz.ntmps67)
        go_wp2_with (first | (go_at_call 71; (with_reducible refine (vbetw_eq h1 _).mono ?_); intro _) | (go_at_call 71; (with_reducible refine (vbetw_eq h2 _).mono ?_); intro _) | (go_at_call 71; (with_reducible refine (vbetw_eq h3 _).mono ?_); intro _) | (go_at_call 71; (with_reducible refine (vbetw_eq h5 _).mono ?_); intro _) | (go_at_call 71; (with_reducible refine (vbetw_eq h6 _).mono ?_); intro _) | (go_at_call 71; (with_reducible refine (vbetw_eq h7 _).mono ?_); intro _) | (go_at_call 128; (with_reducible refine (HS.out _ (by repeat (first | with_reducible exact Up.refl _ | with_reducible apply Up.plus | apply Up.ext | apply Up.alloc | apply Up.drew | (refine Up.setCell ?_ (by simp; try omega) _))) _ hst).mono ?_); intro _) | (go_at_call 121; (with_reducible refine (HC.out _ (by repeat (first | with_reducible exact Up.refl _ | with_reducible apply Up.plus | apply Up.ext | apply Up.alloc | apply Up.drew | (refine Up.setCell ?_ (by simp; try omega) _))) _ _ _ hb).mono ?_); intro _))
        go_ret
        exact ⟨rfl, (by repeat (first | with_reducible exact Up.refl _ | with_reducible apply Up.plus | apply Up.ext | apply Up.alloc | apply Up.drew | (refine Up.setCell ?_ (by simp; try omega) _)))⟩
    · have hE : offE0 s o = 0 := by unfold offE0; simp [k, h1, hst, h2, h3, h4, hct, h5, h6, h7, hZ]
      rw [hE]
      clear hE
      rcases hz2 with z1 | ⟨z1, z2⟩
      · replace z1 : (o.dx == 0) = false := by simp [z1]
        clear hZ
        (unfold Gives; go_enter Tryz.func67, Tryz.ntmps67)
        go_wp2_with (first | (go_at_call 71; (with_reducible refine (vbetw_eq h1 _).mono ?_); intro _) | (go_at_call 71; (with_reducible refine (vbetw_eq h2 _).mono ?_); intro _) | (go_at_call 71; (with_reducible refine (vbetw_eq h3 _).mono ?_); intro _) | (go_at_call 71; (with_reducible refine (vbetw_eq h5 _).mono ?_); intro _) | (go_at_call 71; (with_reducible refine (vbetw_eq h6 _).mono ?_); intro _) | (go_at_call 71; (with_reducible refine (vbetw_eq h7 _).mono ?_); intro _) | (go_at_call 128; (with_reducible refine (HS.out _ (by repeat (first | with_reducible exact Up.refl _ | with_reducible apply Up.plus | apply Up.ext | apply Up.alloc | apply Up.drew | (refine Up.setCell ?_ (by simp; try omega) _))) _ hst).mono ?_); intro _) | (go_at_call 121; (with_reducible refine (HC.out _ (by repeat (first | with_reducible exact Up.refl _ | with_reducible apply Up.plus | apply Up.ext | apply Up.alloc | apply Up.drew | (refine Up.setCell ?_ (by simp; try omega) _))) _ _ _ hb).mono ?_); intro _))
        go_ret
        exact ⟨rfl, (by repeat (first | with_reducible exact Up.refl _ | with_reducible apply Up.plus | apply Up.ext | apply Up.alloc | apply Up.drew | (refine Up.setCell ?_ (by simp; try omega) _)))⟩
      · replace z1 : (o.dx == 0) = true := by simp [z1]
        replace z2 : (o.dy == 0) = false := by simp [z2]
        clear hZ
        (unfold Gives; go_enter Tryz.func67, Tryz.ntmps67)
        go_wp2_with (first | (go_at_call 71; (with_reducible refine (vbetw_eq h1 _).mono ?_); intro _) | (go_at_call 71; (with_reducible refine (vbetw_eq h2 _).mono ?_); intro _) | (go_at_call 71; (with_reducible refine (vbetw_eq h3 _).mono ?_); intro _) | (go_at_call 71; (with_reducible refine (vbetw_eq h5 _).mono ?_); intro _) | (go_at_call 71; (with_reducible refine (vbetw_eq h6 _).mono ?_); intro _) | (go_at_call 71; (with_reducible refine (vbetw_eq h7 _).mono ?_); intro _) | (go_at_call 128; (with_reducible refine (HS.out _ (by repeat (first | with_reducible exact Up.refl _ | with_reducible apply Up.plus | apply Up.ext | apply Up.alloc | apply Up.drew | (refine Up.setCell ?_ (by simp; try omega) _))) _ hst).mono ?_); intro _) | (go_at_call 121; (with_reducible refine (HC.out _ (by repeat (first | with_reducible exact Up.refl _ | with_reducible apply Up.plus | apply Up.ext | apply Up.alloc | apply Up.drew | (refine Up.setCell ?_ (by simp; try omega) _))) _ _ _ hb).mono ?_); intro _))
        go_ret
        exact ⟨rfl, (by repeat (first | with_reducible exact Up.refl _ | with_reducible apply Up.plus | apply Up.ext | apply Up.alloc | apply Up.drew | (refine Up.setCell ?_ (by simp; try omega) _)))⟩
  · skip
    by_cases h1 : withinB o.tick 0 1073741824 = true
    rotate_left
    · replace h1 : withinB o.tick 0 1073741824 = false := Bool.eq_false_iff.2 h1
      have hE : offE0 s o = 2 := by unfold offE0; simp [k, h1]
      rw [hE]
      clear hE
      (unfold Gives; go_enter Tryz.func67, Tryz.ntmps67)
      go_wp2_with (first | (go_at_call 71; (with_reducible refine (vbetw_eq h1 _).mono ?_); intro _))
      go_ret
      exact ⟨rfl, (by repeat (first | with_reducible exact Up.refl _ | with_reducible apply Up.plus | apply Up.ext | apply Up.alloc | apply Up.drew | (refine Up.setCell ?_ (by simp; try omega) _)))⟩
    by_cases hst : (s.stations.any fun x => x.1 == o.station) = true
    rotate_left
    · replace hst : (s.stations.any fun x => x.1 == o.station) = false := Bool.eq_false_iff.2 hst
      have hE : offE0 s o = 7 := by unfold offE0; simp [k, h1, hst]
      rw [hE]
      clear hE
      (unfold Gives; go_enter Tryz.func67, Tryz.ntmps67)
      go_wp2_with (first | (go_at_call 71; (with_reducible refine (vbetw_eq h1 _).mono ?_); intro _) | (go_at_call 128; (with_reducible refine (HS.out _ (by repeat (first | with_reducible exact Up.refl _ | with_reducible apply Up.plus | apply Up.ext | apply Up.alloc | apply Up.drew | (refine Up.setCell ?_ (by simp; try omega) _))) _ hst).mono ?_); intro _))
      go_ret
      exact ⟨rfl, (by repeat (first | with_reducible exact Up.refl _ | with_reducible apply Up.plus | apply Up.ext | apply Up.alloc | apply Up.drew | (refine Up.setCell ?_ (by simp; try omega) _)))⟩
    by_cases h2 : withinB o.err 0 500000 = true
    rotate_left
    · replace h2 : withinB o.err 0 500000 = false := Bool.eq_false_iff.2 h2
      have hE : offE0 s o = 2 := by unfold offE0; simp [k, h1, hst, h2]
      rw [hE]
      clear hE
      (unfold Gives; go_enter Tryz.func67, Tryz.ntmps67)
      go_wp2_with (first | (go_at_call 71; (with_reducible refine (vbetw_eq h1 _).mono ?_); intro _) | (go_at_call 71; (with_reducible refine (vbetw_eq h2 _).mono ?_); intro _) | (go_at_call 128; (with_reducible refine (HS.out _ (by repeat (first | with_reducible exact Up.refl _ | with_reducible apply Up.plus | apply Up.ext | apply Up.alloc | apply Up.drew | (refine Up.setCell ?_ (by simp; try omega) _))) _ hst).mono ?_); intro _))
      go_ret
      exact ⟨rfl, (by repeat (first | with_reducible exact Up.refl _ | with_reducible apply Up.plus | apply Up.ext | apply Up.alloc | apply Up.drew | (refine Up.setCell ?_ (by simp; try omega) _)))⟩
    by_cases h3 : withinB o.far 1 134217728 = true
    rotate_left
    · replace h3 : withinB o.far 1 134217728 = false := Bool.eq_false_iff.2 h3
      have hE : offE0 s o = 2 := by unfold offE0; simp [k, h1, hst, h2, h3]
      rw [hE]
      clear hE
      (unfold Gives; go_enter Tryz.func67, Tryz.ntmps67)
      go_wp2_with (first | (go_at_call 71; (with_reducible refine (vbetw_eq h1 _).mono ?_); intro _) | (go_at_call 71; (with_reducible refine (vbetw_eq h2 _).mono ?_); intro _) | (go_at_call 71; (with_reducible refine (vbetw_eq h3 _).mono ?_); intro _) | (go_at_call 128; (with_reducible refine (HS.out _ (by repeat (first | with_reducible exact Up.refl _ | with_reducible apply Up.plus | apply Up.ext | apply Up.alloc | apply Up.drew | (refine Up.setCell ?_ (by simp; try omega) _))) _ hst).mono ?_); intro _))
      go_ret
      exact ⟨rfl, (by repeat (first | with_reducible exact Up.refl _ | with_reducible apply Up.plus | apply Up.ext | apply Up.alloc | apply Up.drew | (refine Up.setCell ?_ (by simp; try omega) _)))⟩
    rcases cost_cases o.cost with ⟨h4, g1, g2⟩ | ⟨h4, g1⟩ | ⟨h4, g1, g2⟩
    rotate_left
    · have hE : offE0 s o = 2 := by unfold offE0; simp [k, h1, hst, h2, h3, h4]
      rw [hE]
      clear hE
      (unfold Gives; go_enter Tryz.func67, Tryz.ntmps67)
      go_wp2_with (first | (go_at_call 71; (with_reducible refine (vbetw_eq h1 _).mono ?_); intro _) | (go_at_call 71; (with_reducible refine (vbetw_eq h2 _).mono ?_); intro _) | (go_at_call 71; (with_reducible refine (vbetw_eq h3 _).mono ?_); intro _) | (go_at_call 128; (with_reducible refine (HS.out _ (by repeat (first | with_reducible exact Up.refl _ | with_reducible apply Up.plus | apply Up.ext | apply Up.alloc | apply Up.drew | (refine Up.setCell ?_ (by simp; try omega) _))) _ hst).mono ?_); intro _))
      go_ret
      exact ⟨rfl, (by repeat (first | with_reducible exact Up.refl _ | with_reducible apply Up.plus | apply Up.ext | apply Up.alloc | apply Up.drew | (refine Up.setCell ?_ (by simp; try omega) _)))⟩
    · have hE : offE0 s o = 2 := by unfold offE0; simp [k, h1, hst, h2, h3, h4]
      rw [hE]
      clear hE
      (unfold Gives; go_enter Tryz.func67, Tryz.ntmps67)
      go_wp2_with (first | (go_at_call 71; (with_reducible refine (vbetw_eq h1 _).mono ?_); intro _) | (go_at_call 71; (with_reducible refine (vbetw_eq h2 _).mono ?_); intro _) | (go_at_call 71; (with_reducible refine (vbetw_eq h3 _).mono ?_); intro _) | (go_at_call 128; (with_reducible refine (HS.out _ (by repeat (first | with_reducible exact Up.refl _ | with_reducible apply Up.plus | apply Up.ext | apply Up.alloc | apply Up.drew | (refine Up.setCell ?_ (by simp; try omega) _))) _ hst).mono ?_); intro _))
      go_ret
      exact ⟨rfl, (by repeat (first | with_reducible exact Up.refl _ | with_reducible apply Up.plus | apply Up.ext | apply Up.alloc | apply Up.drew | (refine Up.setCell ?_ (by simp; try omega) _)))⟩
    have hE : offE0 s o = 0 := by unfold offE0; simp [k, h1, hst, h2, h3, h4]
    rw [hE]
    clear hE
    (unfold Gives; go_enter Tryz.func67, Tryz.ntmps67)
    go_wp2_with (first | (go_at_call 71; (with_reducible refine (vbetw_eq h1 _).mono ?_); intro _) | (go_at_call 71; (with_reducible refine (vbetw_eq h2 _).mono ?_); intro _) | (go_at_call 71; (with_reducible refine (vbetw_eq h3 _).mono ?_); intro _) | (go_at_call 128; (with_reducible refine (HS.out _ (by repeat (first | with_reducible exact Up.refl _ | with_reducible apply Up.plus | apply Up.ext | apply Up.alloc | apply Up.drew | (refine Up.setCell ?_ (by simp; try omega) _))) _ hst).mono ?_); intro _))
    go_ret
    exact ⟨rfl, (by repeat (first | with_reducible exact Up.refl _ | with_reducible apply Up.plus | apply Up.ext | apply Up.alloc | apply Up.drew | (refine Up.setCell ?_ (by simp; try omega) _)))⟩
end Go.Proofs.YtnaiaodnnmhdkaaGreat

/- Reference bolideref06: the error of an offer in any sky; whether a place is in the field. Conditions: what lies in memory. -/
namespace Go.Proofs.YtnaiaodnnmhdkaaGreat
set_option linter.unusedVariables false
set_option linter.unusedSimpArgs false
open Go.RowKit Go.Shelf

end Go.Proofs.YtnaiaodnnmhdkaaGreat

