/- Several texts in one. -/
import Derived.Test.YtnaiaodnnmhdkaaGreatVK
import Derived.Test.YtnaiaodnnmhdkaaGreatVC
/- Plain Lean: the values of an area as the reference builds them, corner by corner. No program. -/
namespace Go.Proofs.YtnaiaodnnmhdkaaGreat
set_option linter.unusedVariables false
set_option linter.unusedSimpArgs false
open Go.RowKit

/-- the greatest squared distance of the first k corners -/
def mostU (d : KndD) (a : Ar4) (k : Nat) : Int := ((cornersA a).take k).foldl (fun m p => max m (sqK d p)) 0
theorem mostU_succ {d : KndD} {a : Ar4} {k : Nat} {p : Int × Int} (hp : (cornersA a)[k]? = some p) : mostU d a (k + 1) = max (mostU d a k) (sqK d p) := by
  unfold mostU
  rw [List.take_add_one, hp]
  simp [List.foldl_append]
theorem mostU_all (d : KndD) (a : Ar4) : mostU d a 4 = mostK d a := rfl
theorem mostU_bd {d : KndD} {a : Ar4} (hk : KBd d) (ha : ABd a) : ∀ k, k ≤ 4 → 0 ≤ mostU d a k ∧ mostU d a k ≤ 9290873254707200
  | 0, _ => ⟨Int.le_refl _, by show (0 : Int) ≤ _; omega⟩
  | k + 1, h => by
    obtain ⟨p, hp⟩ := corner_at (a := a) (k := k) (by omega)
    have h1 := mostU_bd hk ha k (by omega)
    rw [mostU_succ hp]
    have h2 := (sq_bdK hk ((corner_in ha p (List.mem_of_getElem? hp)).bd ha)).2.2.2
    omega
/-- the least, the greatest value of the first k corners -/
def loU (d : KndD) (a : Ar4) (k : Nat) : Int := ((cornersA a).take k).foldl (fun m p => min m (clampS ((slopeK d p).1 - d.hi - d.err))) 1099511627776
def hiU (d : KndD) (a : Ar4) (k : Nat) : Int := ((cornersA a).take k).foldl (fun m p => max m (clampS ((slopeK d p).2 - d.lo + d.err))) (-1099511627776)
theorem loU_succ {d : KndD} {a : Ar4} {k : Nat} {p : Int × Int} (hp : (cornersA a)[k]? = some p) : loU d a (k + 1) = min (loU d a k) (clampS ((slopeK d p).1 - d.hi - d.err)) := by
  unfold loU
  rw [List.take_add_one, hp]
  simp [List.foldl_append]
theorem hiU_succ {d : KndD} {a : Ar4} {k : Nat} {p : Int × Int} (hp : (cornersA a)[k]? = some p) : hiU d a (k + 1) = max (hiU d a k) (clampS ((slopeK d p).2 - d.lo + d.err)) := by
  unfold hiU
  rw [List.take_add_one, hp]
  simp [List.foldl_append]
theorem clamp_min (a b : Int) : clampS (min a b) = min (clampS a) (clampS b) := by
  rcases Int.le_total a b with h | h
  · have := clamp_mono h
    rw [Int.min_eq_left h, Int.min_eq_left this]
  · have := clamp_mono h
    rw [Int.min_eq_right h, Int.min_eq_right this]
theorem clamp_max (a b : Int) : clampS (max a b) = max (clampS a) (clampS b) := by
  rcases Int.le_total a b with h | h
  · have := clamp_mono h
    rw [Int.max_eq_right h, Int.max_eq_right this]
  · have := clamp_mono h
    rw [Int.max_eq_left h, Int.max_eq_left this]
theorem less_min (a b h e : Int) : min a b - h - e = min (a - h - e) (b - h - e) := by omega
theorem more_max (a b h e : Int) : max a b - h + e = max (a - h + e) (b - h + e) := by omega
theorem lo4 (a b c d h e : Int) : min (min (min (min 1099511627776 (clampS (a - h - e))) (clampS (b - h - e))) (clampS (c - h - e))) (clampS (d - h - e)) = clampS (min (min (min (min a a) b) c) d - h - e) := by
  have h1 := (clamp_bd (a - h - e)).2
  simp only [less_min, clamp_min]
  rw [Int.min_eq_right h1, Int.min_self]
theorem hi4 (a b c d h e : Int) : max (max (max (max (-1099511627776) (clampS (a - h + e))) (clampS (b - h + e))) (clampS (c - h + e))) (clampS (d - h + e)) = clampS (max (max (max (max a a) b) c) d - h + e) := by
  have h1 := (clamp_bd (a - h + e)).1
  simp only [more_max, clamp_max]
  rw [Int.max_eq_right h1, Int.max_self]
theorem loU_all (d : KndD) (a : Ar4) : loU d a 4 = clampS ((hullK d (cornersA a) (slopeK d (a.1, a.2.2.1))).1 - d.hi - d.err) := by
  rw [hull4]
  exact lo4 _ _ _ _ _ _
theorem hiU_all (d : KndD) (a : Ar4) : hiU d a 4 = clampS ((hullK d (cornersA a) (slopeK d (a.1, a.2.2.1))).2 - d.lo + d.err) := by
  rw [hull4]
  exact hi4 _ _ _ _ _ _
theorem front_yet {d : KndD} {a : Ar4} (h : noneYet (fun p => decide (doK d p ≤ 0)) (cornersA a) 4) : (cornersA a).all (frontK d) = true := by
  rw [List.all_eq_true]
  intro p hp
  obtain ⟨i, hi, rfl⟩ := List.getElem_of_mem hp
  have h1 := h i _ hi (List.getElem?_eq_getElem hi)
  have h2 := of_decide_eq_false h1
  unfold frontK
  exact decide_eq_true (by omega)
theorem front_not {d : KndD} {a : Ar4} {p : Int × Int} (hp : p ∈ cornersA a) (h : doK d p ≤ 0) : (cornersA a).all (frontK d) = false := by
  refine Bool.eq_false_iff.2 fun hc => ?_
  have h1 := List.all_eq_true.1 hc p hp
  unfold frontK at h1
  have := of_decide_eq_true h1
  omega
theorem lohi_bd (d : KndD) (a : Ar4) : ∀ k, k ≤ 4 → (-1099511627776 ≤ loU d a k ∧ loU d a k ≤ 1099511627776) ∧ -1099511627776 ≤ hiU d a k ∧ hiU d a k ≤ 1099511627776
  | 0, _ => by
    show (-1099511627776 ≤ (1099511627776 : Int) ∧ (1099511627776 : Int) ≤ 1099511627776) ∧ (-1099511627776 : Int) ≤ -1099511627776 ∧ (-1099511627776 : Int) ≤ 1099511627776
    omega
  | k + 1, h => by
    obtain ⟨p, hp⟩ := corner_at (a := a) (k := k) (by omega)
    have h1 := lohi_bd d a k (by omega)
    rw [loU_succ hp, hiU_succ hp]
    have h2 := clamp_bd ((slopeK d p).1 - d.hi - d.err)
    have h3 := clamp_bd ((slopeK d p).2 - d.lo + d.err)
    omega
end Go.Proofs.YtnaiaodnnmhdkaaGreat

/- Reference bolideref06: which offers are valid, whether a place is in the field. Conditions: what lies in memory. -/
namespace Go.Proofs.YtnaiaodnnmhdkaaGreat
set_option linter.unusedVariables false
set_option linter.unusedSimpArgs false
open Go.RowKit Go.Shelf

theorem vbetw_eq {n lo hi : Int} {b : Bool} (h : withinB n lo hi = b) (w : World) : Gives Tryz.prog 71 #[.int .i64 n, .int .i64 lo, .int .i64 hi] w (.bool b) := h ▸ vbetween_any n lo hi w
theorem biasV_is (l : List (Int × Int × Int)) (v : Int) : (biasV l v).2 = l.any fun x => x.1 == v := by
  unfold biasV
  cases hf : l.find? (fun x => x.1 == v) with
  | none =>
    have := List.find?_eq_none.1 hf
    symm
    rw [List.any_eq_false]
    intro x hx
    simpa using this x hx
  | some x =>
    symm
    rw [List.any_eq_true]
    exact ⟨x, List.mem_of_find?_eq_some hf, by simpa using List.find?_some hf⟩
theorem vhas_eq {K : Nat → Prop} {w : World} {a sa ca : Option Addr} {n c sn sc cn cc : Nat} {l : List (Int × Int × Int)} {home id : Int} {b : Bool} (hs : Tris K w (.slice sa sn sc) l) (h : (l.any fun x => x.1 == id) = b) :
    Gives Tryz.prog 128 #[.agg #[.slice a n c, .int .i64 home, .slice sa sn sc, .slice ca cn cc], .int .i64 id] w (.bool b) := h ▸ vhas_any hs id
theorem vbias_eq {K : Nat → Prop} {w : World} {a sa ca : Option Addr} {n c sn sc cn cc : Nat} {l : List (Int × Int × Int)} {home v b1 b2 : Int} {b : Bool} (hs : Tris K w (.slice ca cn cc) l) (h : biasV l v = ((b1, b2), b)) :
    Gives Tryz.prog 121 #[.agg #[.slice a n c, .int .i64 home, .slice sa sn sc, .slice ca cn cc], .int .i64 v] w (.tuple #[.agg #[.int .i64 (b1), .int .i64 (b2)], .bool b]) := by
  have := vbias_any (a := a) (n := n) (c := c) (sa := sa) (sn := sn) (sc := sc) (home := home) hs v
  rw [h] at this
  exact this
theorem cost_cases (x : Int) : (withinB x 0 1000 = true ∧ ¬ x < 0 ∧ ¬ 1000 < x) ∨ (withinB x 0 1000 = false ∧ x < 0) ∨ (withinB x 0 1000 = false ∧ ¬ x < 0 ∧ 1000 < x) := by
  unfold withinB
  by_cases h0 : x < 0
  · exact .inr (.inl ⟨decide_eq_false (by omega), h0⟩)
  · by_cases h1 : 1000 < x
    · exact .inr (.inr ⟨decide_eq_false (by omega), h0, h1⟩)
    · exact .inl ⟨decide_eq_true (by omega), h0, h1⟩
set_option maxRecDepth 100000 in
set_option maxHeartbeats 40000000 in
theorem voffer_any {K : Nat → Prop} {w : World} {a sa ca : Option Addr} {n c sn sc cn cc : Nat} {s : SkyD} (hL : SkyL K w a n c sa sn sc ca cn cc s) (o : OffD) : Gives Tryz.prog 67 #[.agg #[.slice a n c, .int .i64 s.home, .slice sa sn sc, .slice ca cn cc], .agg (offA o)] w (.int .i64 (offE0 s o)) := by
  have HS := hide (fun W (hu : Up w W) b (h : (s.stations.any fun x => x.1 == o.station) = b) => vhas_eq (a := a) (n := n) (c := c) (ca := ca) (cn := cn) (cc := cc) (home := s.home) (hL.up hu).st h)
  have HC := hide (fun W (hu : Up w W) b1 b2 b (h : biasV s.catalogs o.catalog = ((b1, b2), b)) => vbias_eq (a := a) (n := n) (c := c) (sa := sa) (sn := sn) (sc := sc) (home := s.home) (hL.up hu).ca h)
  generalize s.home = home at *
  clear hL
  by_cases k0 : o.kind ≠ 1 ∧ o.kind ≠ 2
  · have hE : offE0 s o = 4 := by unfold offE0; rw [if_pos k0]
    rw [hE]
    obtain ⟨k1, k2⟩ := k0
    have kb1 : (o.kind != 1) = true := by simp [k1]
    have kb2 : (o.kind != 2) = true := by simp [k2]
    clear hE
    (unfold Gives; go_enter Tryz.func67, Tryz.ntmps67)
    go_wp2_with fail
    go_ret
    exact ⟨rfl, (by repeat (first | with_reducible exact Up.refl _ | with_reducible apply Up.plus | apply Up.ext | apply Up.alloc | apply Up.drew | (refine Up.setCell ?_ (by simp; try omega) _)))⟩
  have hk : o.kind = 1 ∨ o.kind = 2 := by omega
  rcases hk with k | k
  · skip
    by_cases h1 : withinB o.tick 0 1073741824 = true
    rotate_left
    · replace h1 : withinB o.tick 0 1073741824 = false := Bool.eq_false_iff.2 h1
      have hE : offE0 s o = 2 := by unfold offE0; simp [k, h1]
      rw [hE]
      clear hE
      (unfold Gives; go_enter Tryz.func67, Tryz.ntmps67)
      go_wp2_with (first | (go_at_call 71; (with_reducible refine (vbetw_eq h1 _).mono ?_); intro _))
      go_ret
      exact ⟨rfl, (by repeat (first | with_reducible exact Up.refl _ | with_reducible apply Up.plus | apply Up.ext | apply Up.alloc | apply Up.drew | (refine Up.setCell ?_ (by simp; try omega) _)))⟩
    by_cases hst : (s.stations.any fun x => x.1 == o.station) = true
    rotate_left
    · replace hst : (s.stations.any fun x => x.1 == o.station) = false := Bool.eq_false_iff.2 hst
      have hE : offE0 s o = 7 := by unfold offE0; simp [k, h1, hst]
      rw [hE]
      clear hE
      (unfold Gives; go_enter Tryz.func67, Tryz.ntmps67)
      go_wp2_with (first | (go_at_call 71; (with_reducible refine (vbetw_eq h1 _).mono ?_); intro _) | (go_at_call 128; (with_reducible refine (HS.out _ (by repeat (first | with_reducible exact Up.refl _ | with_reducible apply Up.plus | apply Up.ext | apply Up.alloc | apply Up.drew | (refine Up.setCell ?_ (by simp; try omega) _))) _ hst).mono ?_); intro _))
      go_ret
      exact ⟨rfl, (by repeat (first | with_reducible exact Up.refl _ | with_reducible apply Up.plus | apply Up.ext | apply Up.alloc | apply Up.drew | (refine Up.setCell ?_ (by simp; try omega) _)))⟩
    by_cases h2 : withinB o.err 0 500000 = true
    rotate_left
    · replace h2 : withinB o.err 0 500000 = false := Bool.eq_false_iff.2 h2
      have hE : offE0 s o = 2 := by unfold offE0; simp [k, h1, hst, h2]
      rw [hE]
      clear hE
      (unfold Gives; go_enter Tryz.func67, Tryz.ntmps67)
      go_wp2_with (first | (go_at_call 71; (with_reducible refine (vbetw_eq h1 _).mono ?_); intro _) | (go_at_call 71; (with_reducible refine (vbetw_eq h2 _).mono ?_); intro _) | (go_at_call 128; (with_reducible refine (HS.out _ (by repeat (first | with_reducible exact Up.refl _ | with_reducible apply Up.plus | apply Up.ext | apply Up.alloc | apply Up.drew | (refine Up.setCell ?_ (by simp; try omega) _))) _ hst).mono ?_); intro _))
      go_ret
      exact ⟨rfl, (by repeat (first | with_reducible exact Up.refl _ | with_reducible apply Up.plus | apply Up.ext | apply Up.alloc | apply Up.drew | (refine Up.setCell ?_ (by simp; try omega) _)))⟩
    by_cases h3 : withinB o.far 1 134217728 = true
    rotate_left
    · replace h3 : withinB o.far 1 134217728 = false := Bool.eq_false_iff.2 h3
      have hE : offE0 s o = 2 := by unfold offE0; simp [k, h1, hst, h2, h3]
      rw [hE]
      clear hE
      (unfold Gives; go_enter Tryz.func67, Tryz.ntmps67)
      go_wp2_with (first | (go_at_call 71; (with_reducible refine (vbetw_eq h1 _).mono ?_); intro _) | (go_at_call 71; (with_reducible refine (vbetw_eq h2 _).mono ?_); intro _) | (go_at_call 71; (with_reducible refine (vbetw_eq h3 _).mono ?_); intro _) | (go_at_call 128; (with_reducible refine (HS.out _ (by repeat (first | with_reducible exact Up.refl _ | with_reducible apply Up.plus | apply Up.ext | apply Up.alloc | apply Up.drew | (refine Up.setCell ?_ (by simp; try omega) _))) _ hst).mono ?_); intro _))
      go_ret
      exact ⟨rfl, (by repeat (first | with_reducible exact Up.refl _ | with_reducible apply Up.plus | apply Up.ext | apply Up.alloc | apply Up.drew | (refine Up.setCell ?_ (by simp; try omega) _)))⟩
    rcases cost_cases o.cost with ⟨h4, g1, g2⟩ | ⟨h4, g1⟩ | ⟨h4, g1, g2⟩
    rotate_left
    · have hE : offE0 s o = 2 := by unfold offE0; simp [k, h1, hst, h2, h3, h4]
      rw [hE]
      clear hE
      (unfold Gives; go_enter Tryz.func67, Tryz.ntmps67)
      go_wp2_with (first | (go_at_call 71; (with_reducible refine (vbetw_eq h1 _).mono ?_); intro _) | (go_at_call 71; (with_reducible refine (vbetw_eq h2 _).mono ?_); intro _) | (go_at_call 71; (with_reducible refine (vbetw_eq h3 _).mono ?_); intro _) | (go_at_call 128; (with_reducible refine (HS.out _ (by repeat (first | with_reducible exact Up.refl _ | with_reducible apply Up.plus | apply Up.ext | apply Up.alloc | apply Up.drew | (refine Up.setCell ?_ (by simp; try omega) _))) _ hst).mono ?_); intro _))
      go_ret
      exact ⟨rfl, (by repeat (first | with_reducible exact Up.refl _ | with_reducible apply Up.plus | apply Up.ext | apply Up.alloc | apply Up.drew | (refine Up.setCell ?_ (by simp; try omega) _)))⟩
    · have hE : offE0 s o = 2 := by unfold offE0; simp [k, h1, hst, h2, h3, h4]
      rw [hE]
      clear hE
      (unfold Gives; go_enter Tryz.func67, Tryz.ntmps67)
      go_wp2_with (first | (go_at_call 71; (with_reducible refine (vbetw_eq h1 _).mono ?_); intro _) | (go_at_call 71; (with_reducible refine (vbetw_eq h2 _).mono ?_); intro _) | (go_at_call 71; (with_reducible refine (vbetw_eq h3 _).mono ?_); intro _) | (go_at_call 128; (with_reducible refine (HS.out _ (by repeat (first | with_reducible exact Up.refl _ | with_reducible apply Up.plus | apply Up.ext | apply Up.alloc | apply Up.drew | (refine Up.setCell ?_ (by simp; try omega) _))) _ hst).mono ?_); intro _))
      go_ret
      exact ⟨rfl, (by repeat (first | with_reducible exact Up.refl _ | with_reducible apply Up.plus | apply Up.ext | apply Up.alloc | apply Up.drew | (refine Up.setCell ?_ (by simp; try omega) _)))⟩
    obtain ⟨b1, hb1⟩ : ∃ x, (biasV s.catalogs o.catalog).1.1 = x := ⟨_, rfl⟩
    obtain ⟨b2, hb2⟩ : ∃ x, (biasV s.catalogs o.catalog).1.2 = x := ⟨_, rfl⟩
    have hb3 := biasV_is s.catalogs o.catalog
    by_cases hct : (s.catalogs.any fun x => x.1 == o.catalog) = true
    rotate_left
    · replace hct : (s.catalogs.any fun x => x.1 == o.catalog) = false := Bool.eq_false_iff.2 hct
      rw [hct] at hb3
      have hb : biasV s.catalogs o.catalog = ((b1, b2), false) := by rw [← hb1, ← hb2, ← hb3]
      have hE : offE0 s o = 7 := by unfold offE0; simp [k, h1, hst, h2, h3, h4, hct]
      rw [hE]
      clear hE hb1 hb2 hb3
      (unfold Gives; go_enter Tryz.func67, Tryz.ntmps67)
      go_wp2_with (first | (go_at_call 71; (with_reducible refine (vbetw_eq h1 _).mono ?_); intro _) | (go_at_call 71; (with_reducible refine (vbetw_eq h2 _).mono ?_); intro _) | (go_at_call 71; (with_reducible refine (vbetw_eq h3 _).mono ?_); intro _) | (go_at_call 128; (with_reducible refine (HS.out _ (by repeat (first | with_reducible exact Up.refl _ | with_reducible apply Up.plus | apply Up.ext | apply Up.alloc | apply Up.drew | (refine Up.setCell ?_ (by simp; try omega) _))) _ hst).mono ?_); intro _) | (go_at_call 121; (with_reducible refine (HC.out _ (by repeat (first | with_reducible exact Up.refl _ | with_reducible apply Up.plus | apply Up.ext | apply Up.alloc | apply Up.drew | (refine Up.setCell ?_ (by simp; try omega) _))) _ _ _ hb).mono ?_); intro _))
      go_ret
      exact ⟨rfl, (by repeat (first | with_reducible exact Up.refl _ | with_reducible apply Up.plus | apply Up.ext | apply Up.alloc | apply Up.drew | (refine Up.setCell ?_ (by simp; try omega) _)))⟩
    rw [hct] at hb3
    have hb : biasV s.catalogs o.catalog = ((b1, b2), true) := by rw [← hb1, ← hb2, ← hb3]
    clear hb1 hb2 hb3
    by_cases h5 : withinB o.dx (-4096) 4096 = true
    rotate_left
    · replace h5 : withinB o.dx (-4096) 4096 = false := Bool.eq_false_iff.2 h5
      have hE : offE0 s o = 2 := by unfold offE0; simp [k, h1, hst, h2, h3, h4, hct, h5]
      rw [hE]
      clear hE
      (unfold Gives; go_enter Tryz.func67, Tryz.ntmps67)
      go_wp2_with (first | (go_at_call 71; (with_reducible refine (vbetw_eq h1 _).mono ?_); intro _) | (go_at_call 71; (with_reducible refine (vbetw_eq h2 _).mono ?_); intro _) | (go_at_call 71; (with_reducible refine (vbetw_eq h3 _).mono ?_); intro _) | (go_at_call 71; (with_reducible refine (vbetw_eq h5 _).mono ?_); intro _) | (go_at_call 128; (with_reducible refine (HS.out _ (by repeat (first | with_reducible exact Up.refl _ | with_reducible apply Up.plus | apply Up.ext | apply Up.alloc | apply Up.drew | (refine Up.setCell ?_ (by simp; try omega) _))) _ hst).mono ?_); intro _) | (go_at_call 121; (with_reducible refine (HC.out _ (by repeat (first | with_reducible exact Up.refl _ | with_reducible apply Up.plus | apply Up.ext | apply Up.alloc | apply Up.drew | (refine Up.setCell ?_ (by simp; try omega) _))) _ _ _ hb).mono ?_); intro _))
      go_ret
      exact ⟨rfl, (by repeat (first | with_reducible exact Up.refl _ | with_reducible apply Up.plus | apply Up.ext | apply Up.alloc | apply Up.drew | (refine Up.setCell ?_ (by simp; try omega) _)))⟩
    by_cases h6 : withinB o.dy (-4096) 4096 = true
    rotate_left
    · replace h6 : withinB o.dy (-4096) 4096 = false := Bool.eq_false_iff.2 h6
      have hE : offE0 s o = 2 := by unfold offE0; simp [k, h1, hst, h2, h3, h4, hct, h5, h6]
      rw [hE]
      clear hE
      (unfold Gives; go_enter Tryz.func67, Tryz.ntmps67)
      go_wp2_with (first | (go_at_call 71; (with_reducible refine (vbetw_eq h1 _).mono ?_); intro _) | (go_at_call 71; (with_reducible refine (vbetw_eq h2 _).mono ?_); intro _) | (go_at_call 71; (with_reducible refine (vbetw_eq h3 _).mono ?_); intro _) | (go_at_call 71; (with_reducible refine (vbetw_eq h5 _).mono ?_); intro _) | (go_at_call 71; (with_reducible refine (vbetw_eq h6 _).mono ?_); intro _) | (go_at_call 128; (with_reducible refine (HS.out _ (by repeat (first | with_reducible exact Up.refl _ | with_reducible apply Up.plus | apply Up.ext | apply Up.alloc | apply Up.drew | (refine Up.setCell ?_ (by simp; try omega) _))) _ hst).mono ?_); intro _) | (go_at_call 121; (with_reducible refine (HC.out _ (by repeat (first | with_reducible exact Up.refl _ | with_reducible apply Up.plus | apply Up.ext | apply Up.alloc | apply Up.drew | (refine Up.setCell ?_ (by simp; try omega) _))) _ _ _ hb).mono ?_); intro _))
      go_ret
      exact ⟨rfl, (by repeat (first | with_reducible exact Up.refl _ | with_reducible apply Up.plus | apply Up.ext | apply Up.alloc | apply Up.drew | (refine Up.setCell ?_ (by simp; try omega) _)))⟩
    have hzz : (o.dx = 0 ∧ o.dy = 0) ∨ ¬ o.dx = 0 ∨ (o.dx = 0 ∧ ¬ o.dy = 0) := by omega
    rcases hzz with ⟨z1, z2⟩ | hz2
    · have hE : offE0 s o = 2 := by unfold offE0; simp [k, h1, hst, h2, h3, h4, hct, h5, h6, z1, z2]
      rw [hE]
      replace z1 : (o.dx == 0) = true := by simp [z1]
      replace z2 : (o.dy == 0) = true := by simp [z2]
      clear hE
      (unfold Gives; go_enter Tryz.func67, Tryz.ntmps67)
      go_wp2_with (first | (go_at_call 71; (with_reducible refine (vbetw_eq h1 _).mono ?_); intro _) | (go_at_call 71; (with_reducible refine (vbetw_eq h2 _).mono ?_); intro _) | (go_at_call 71; (with_reducible refine (vbetw_eq h3 _).mono ?_); intro _) | (go_at_call 71; (with_reducible refine (vbetw_eq h5 _).mono ?_); intro _) | (go_at_call 71; (with_reducible refine (vbetw_eq h6 _).mono ?_); intro _) | (go_at_call 128; (with_reducible refine (HS.out _ (by repeat (first | with_reducible exact Up.refl _ | with_reducible apply Up.plus | apply Up.ext | apply Up.alloc | apply Up.drew | (refine Up.setCell ?_ (by simp; try omega) _))) _ hst).mono ?_); intro _) | (go_at_call 121; (with_reducible refine (HC.out _ (by repeat (first | with_reducible exact Up.refl _ | with_reducible apply Up.plus | apply Up.ext | apply Up.alloc | apply Up.drew | (refine Up.setCell ?_ (by simp; try omega) _))) _ _ _ hb).mono ?_); intro _))
      go_ret
      exact ⟨rfl, (by repeat (first | with_reducible exact Up.refl _ | with_reducible apply Up.plus | apply Up.ext | apply Up.alloc | apply Up.drew | (refine Up.setCell ?_ (by simp; try omega) _)))⟩
    have hZ : (o.dx == 0 && o.dy == 0) = false := by rcases hz2 with h | ⟨h, h'⟩ <;> simp [h] <;> omega
    by_cases h7 : withinB o.wide 0 1000000 = true
    rotate_left
    · replace h7 : withinB o.wide 0 1000000 = false := Bool.eq_false_iff.2 h7
      have hE : offE0 s o = 2 := by unfold offE0; simp [k, h1, hst, h2, h3, h4, hct, h5, h6, h7, hZ]
      rw [hE]
      clear hE
      rcases hz2 with z1 | ⟨z1, z2⟩
      · replace z1 : (o.dx == 0) = false := by simp [z1]
        clear hZ
        (unfold Gives; go_enter Tryz.func67, Tryz.ntmps67)
        go_wp2_with (first | (go_at_call 71; (with_reducible refine (vbetw_eq h1 _).mono ?_); intro _) | (go_at_call 71; (with_reducible refine (vbetw_eq h2 _).mono ?_); intro _) | (go_at_call 71; (with_reducible refine (vbetw_eq h3 _).mono ?_); intro _) | (go_at_call 71; (with_reducible refine (vbetw_eq h5 _).mono ?_); intro _) | (go_at_call 71; (with_reducible refine (vbetw_eq h6 _).mono ?_); intro _) | (go_at_call 71; (with_reducible refine (vbetw_eq h7 _).mono ?_); intro _) | (go_at_call 128; (with_reducible refine (HS.out _ (by repeat (first | with_reducible exact Up.refl _ | with_reducible apply Up.plus | apply Up.ext | apply Up.alloc | apply Up.drew | (refine Up.setCell ?_ (by simp; try omega) _))) _ hst).mono ?_); intro _) | (go_at_call 121; (with_reducible refine (HC.out _ (by repeat (first | with_reducible exact Up.refl _ | with_reducible apply Up.plus | apply Up.ext | apply Up.alloc | apply Up.drew | (refine Up.setCell ?_ (by simp; try omega) _))) _ _ _ hb).mono ?_); intro _))
        go_ret
        exact ⟨rfl, (by repeat (first | with_reducible exact Up.refl _ | with_reducible apply Up.plus | apply Up.ext | apply Up.alloc | apply Up.drew | (refine Up.setCell ?_ (by simp; try omega) _)))⟩
      · replace z1 : (o.dx == 0) = true := by simp [z1]
        replace z2 : (o.dy == 0) = false := by simp [z2]
        clear hZ
        (unfold Gives; go_enter Tryz.func67, Tryz.ntmps67)
        go_wp2_with (first | (go_at_call 71; (with_reducible refine (vbetw_eq h1 _).mono ?_); intro _) | (go_at_call 71; (with_reducible refine (vbetw_eq h2 _).mono ?_); intro _) | (go_at_call 71; (with_reducible refine (vbetw_eq h3 _).mono ?_); intro _) | (go_at_call 71; (with_reducible refine (vbetw_eq h5 _).mono ?_); intro _) | (go_at_call 71; (with_reducible refine (vbetw_eq h6 _).mono ?_); intro _) | (go_at_call 71; (with_reducible refine (vbetw_eq h7 _).mono ?_); intro _) | (go_at_call 128; (with_reducible refine (HS.out _ (by repeat (first | with_reducible exact Up.refl _ | with_reducible apply Up.plus | apply Up.ext | apply Up.alloc | apply Up.drew | (refine Up.setCell ?_ (by simp; try omega) _))) _ hst).mono ?_); intro _) | (go_at_call 121; (with_reducible refine (HC.out _ (by repeat (first | with_reducible exact Up.refl _ | with_reducible apply Up.plus | apply Up.ext | apply Up.alloc | apply Up.drew | (refine Up.setCell ?_ (by simp; try omega) _))) _ _ _ hb).mono ?_); intro _))
        go_ret
        exact ⟨rfl, (by repeat (first | with_reducible exact Up.refl _ | with_reducible apply Up.plus | apply Up.ext | apply Up.alloc | apply Up.drew | (refine Up.setCell ?_ (by simp; try omega) _)))⟩
    · have hE : offE0 s o = 0 := by unfold offE0; simp [k, h1, hst, h2, h3, h4, hct, h5, h6, h7, hZ]
      rw [hE]
      clear hE
      rcases hz2 with z1 | ⟨z1, z2⟩
      · replace z1 : (o.dx == 0) = false := by simp [z1]
        clear hZ
        (unfold Gives; go_enter Tryz.func67, Tryz.ntmps67)
        go_wp2_with (first | (go_at_call 71; (with_reducible refine (vbetw_eq h1 _).mono ?_); intro _) | (go_at_call 71; (with_reducible refine (vbetw_eq h2 _).mono ?_); intro _) | (go_at_call 71; (with_reducible refine (vbetw_eq h3 _).mono ?_); intro _) | (go_at_call 71; (with_reducible refine (vbetw_eq h5 _).mono ?_); intro _) | (go_at_call 71; (with_reducible refine (vbetw_eq h6 _).mono ?_); intro _) | (go_at_call 71; (with_reducible refine (vbetw_eq h7 _).mono ?_); intro _) | (go_at_call 128; (with_reducible refine (HS.out _ (by repeat (first | with_reducible exact Up.refl _ | with_reducible apply Up.plus | apply Up.ext | apply Up.alloc | apply Up.drew | (refine Up.setCell ?_ (by simp; try omega) _))) _ hst).mono ?_); intro _) | (go_at_call 121; (with_reducible refine (HC.out _ (by repeat (first | with_reducible exact Up.refl _ | with_reducible apply Up.plus | apply Up.ext | apply Up.alloc | apply Up.drew | (refine Up.setCell ?_ (by simp; try omega) _))) _ _ _ hb).mono ?_); intro _))
        go_ret
        exact ⟨rfl, (by repeat (first | with_reducible exact Up.refl _ | with_reducible apply Up.plus | apply Up.ext | apply Up.alloc | apply Up.drew | (refine Up.setCell ?_ (by simp; try omega) _)))⟩
      · replace z1 : (o.dx == 0) = true := by simp [z1]
        replace z2 : (o.dy == 0) = false := by simp [z2]
        clear hZ
        (unfold Gives; go_enter Tryz.func67, Tryz.ntmps67)
        go_wp2_with (first | (go_at_call 71; (with_reducible refine (vbetw_eq h1 _).mono ?_); intro _) | (go_at_call 71; (with_reducible refine (vbetw_eq h2 _).mono ?_); intro _) | (go_at_call 71; (with_reducible refine (vbetw_eq h3 _).mono ?_); intro _) | (go_at_call 71; (with_reducible refine (vbetw_eq h5 _).mono ?_); intro _) | (go_at_call 71; (with_reducible refine (vbetw_eq h6 _).mono ?_); intro _) | (go_at_call 71; (with_reducible refine (vbetw_eq h7 _).mono ?_); intro _) | (go_at_call 128; (with_reducible refine (HS.out _ (by repeat (first | with_reducible exact Up.refl _ | with_reducible apply Up.plus | apply Up.ext | apply Up.alloc | apply Up.drew | (refine Up.setCell ?_ (by simp; try omega) _))) _ hst).mono ?_); intro _) | (go_at_call 121; (with_reducible refine (HC.out _ (by repeat (first | with_reducible exact Up.refl _ | with_reducible apply Up.plus | apply Up.ext | apply Up.alloc | apply Up.drew | (refine Up.setCell ?_ (by simp; try omega) _))) _ _ _ hb).mono ?_); intro _))
        go_ret
        exact ⟨rfl, (by repeat (first | with_reducible exact Up.refl _ | with_reducible apply Up.plus | apply Up.ext | apply Up.alloc | apply Up.drew | (refine Up.setCell ?_ (by simp; try omega) _)))⟩
  · skip
    by_cases h1 : withinB o.tick 0 1073741824 = true
    rotate_left
    · replace h1 : withinB o.tick 0 1073741824 = false := Bool.eq_false_iff.2 h1
      have hE : offE0 s o = 2 := by unfold offE0; simp [k, h1]
      rw [hE]
      clear hE
      (unfold Gives; go_enter Tryz.func67, Tryz.ntmps67)
      go_wp2_with (first | (go_at_call 71; (with_reducible refine (vbetw_eq h1 _).mono ?_); intro _))
      go_ret
      exact ⟨rfl, (by repeat (first | with_reducible exact Up.refl _ | with_reducible apply Up.plus | apply Up.ext | apply Up.alloc | apply Up.drew | (refine Up.setCell ?_ (by simp; try omega) _)))⟩
    by_cases hst : (s.stations.any fun x => x.1 == o.station) = true
    rotate_left
    · replace hst : (s.stations.any fun x => x.1 == o.station) = false := Bool.eq_false_iff.2 hst
      have hE : offE0 s o = 7 := by unfold offE0; simp [k, h1, hst]
      rw [hE]
      clear hE
      (unfold Gives; go_enter Tryz.func67, Tryz.ntmps67)
      go_wp2_with (first | (go_at_call 71; (with_reducible refine (vbetw_eq h1 _).mono ?_); intro _) | (go_at_call 128; (with_reducible refine (HS.out _ (by repeat (first | with_reducible exact Up.refl _ | with_reducible apply Up.plus | apply Up.ext | apply Up.alloc | apply Up.drew | (refine Up.setCell ?_ (by simp; try omega) _))) _ hst).mono ?_); intro _))
      go_ret
      exact ⟨rfl, (by repeat (first | with_reducible exact Up.refl _ | with_reducible apply Up.plus | apply Up.ext | apply Up.alloc | apply Up.drew | (refine Up.setCell ?_ (by simp; try omega) _)))⟩
    by_cases h2 : withinB o.err 0 500000 = true
    rotate_left
    · replace h2 : withinB o.err 0 500000 = false := Bool.eq_false_iff.2 h2
      have hE : offE0 s o = 2 := by unfold offE0; simp [k, h1, hst, h2]
      rw [hE]
      clear hE
      (unfold Gives; go_enter Tryz.func67, Tryz.ntmps67)
      go_wp2_with (first | (go_at_call 71; (with_reducible refine (vbetw_eq h1 _).mono ?_); intro _) | (go_at_call 71; (with_reducible refine (vbetw_eq h2 _).mono ?_); intro _) | (go_at_call 128; (with_reducible refine (HS.out _ (by repeat (first | with_reducible exact Up.refl _ | with_reducible apply Up.plus | apply Up.ext | apply Up.alloc | apply Up.drew | (refine Up.setCell ?_ (by simp; try omega) _))) _ hst).mono ?_); intro _))
      go_ret
      exact ⟨rfl, (by repeat (first | with_reducible exact Up.refl _ | with_reducible apply Up.plus | apply Up.ext | apply Up.alloc | apply Up.drew | (refine Up.setCell ?_ (by simp; try omega) _)))⟩
    by_cases h3 : withinB o.far 1 134217728 = true
    rotate_left
    · replace h3 : withinB o.far 1 134217728 = false := Bool.eq_false_iff.2 h3
      have hE : offE0 s o = 2 := by unfold offE0; simp [k, h1, hst, h2, h3]
      rw [hE]
      clear hE
      (unfold Gives; go_enter Tryz.func67, Tryz.ntmps67)
      go_wp2_with (first | (go_at_call 71; (with_reducible refine (vbetw_eq h1 _).mono ?_); intro _) | (go_at_call 71; (with_reducible refine (vbetw_eq h2 _).mono ?_); intro _) | (go_at_call 71; (with_reducible refine (vbetw_eq h3 _).mono ?_); intro _) | (go_at_call 128; (with_reducible refine (HS.out _ (by repeat (first | with_reducible exact Up.refl _ | with_reducible apply Up.plus | apply Up.ext | apply Up.alloc | apply Up.drew | (refine Up.setCell ?_ (by simp; try omega) _))) _ hst).mono ?_); intro _))
      go_ret
      exact ⟨rfl, (by repeat (first | with_reducible exact Up.refl _ | with_reducible apply Up.plus | apply Up.ext | apply Up.alloc | apply Up.drew | (refine Up.setCell ?_ (by simp; try omega) _)))⟩
    rcases cost_cases o.cost with ⟨h4, g1, g2⟩ | ⟨h4, g1⟩ | ⟨h4, g1, g2⟩
    rotate_left
    · have hE : offE0 s o = 2 := by unfold offE0; simp [k, h1, hst, h2, h3, h4]
      rw [hE]
      clear hE
      (unfold Gives; go_enter Tryz.func67, Tryz.ntmps67)
      go_wp2_with (first | (go_at_call 71; (with_reducible refine (vbetw_eq h1 _).mono ?_); intro _) | (go_at_call 71; (with_reducible refine (vbetw_eq h2 _).mono ?_); intro _) | (go_at_call 71; (with_reducible refine (vbetw_eq h3 _).mono ?_); intro _) | (go_at_call 128; (with_reducible refine (HS.out _ (by repeat (first | with_reducible exact Up.refl _ | with_reducible apply Up.plus | apply Up.ext | apply Up.alloc | apply Up.drew | (refine Up.setCell ?_ (by simp; try omega) _))) _ hst).mono ?_); intro _))
      go_ret
      exact ⟨rfl, (by repeat (first | with_reducible exact Up.refl _ | with_reducible apply Up.plus | apply Up.ext | apply Up.alloc | apply Up.drew | (refine Up.setCell ?_ (by simp; try omega) _)))⟩
    · have hE : offE0 s o = 2 := by unfold offE0; simp [k, h1, hst, h2, h3, h4]
      rw [hE]
      clear hE
      (unfold Gives; go_enter Tryz.func67, Tryz.ntmps67)
      go_wp2_with (first | (go_at_call 71; (with_reducible refine (vbetw_eq h1 _).mono ?_); intro _) | (go_at_call 71; (with_reducible refine (vbetw_eq h2 _).mono ?_); intro _) | (go_at_call 71; (with_reducible refine (vbetw_eq h3 _).mono ?_); intro _) | (go_at_call 128; (with_reducible refine (HS.out _ (by repeat (first | with_reducible exact Up.refl _ | with_reducible apply Up.plus | apply Up.ext | apply Up.alloc | apply Up.drew | (refine Up.setCell ?_ (by simp; try omega) _))) _ hst).mono ?_); intro _))
      go_ret
      exact ⟨rfl, (by repeat (first | with_reducible exact Up.refl _ | with_reducible apply Up.plus | apply Up.ext | apply Up.alloc | apply Up.drew | (refine Up.setCell ?_ (by simp; try omega) _)))⟩
    have hE : offE0 s o = 0 := by unfold offE0; simp [k, h1, hst, h2, h3, h4]
    rw [hE]
    clear hE
    (unfold Gives; go_enter Tryz.func67, Tryz.ntmps67)
    go_wp2_with (first | (go_at_call 71; (with_reducible refine (vbetw_eq h1 _).mono ?_); intro _) | (go_at_call 71; (with_reducible refine (vbetw_eq h2 _).mono ?_); intro _) | (go_at_call 71; (with_reducible refine (vbetw_eq h3 _).mono ?_); intro _) | (go_at_call 128; (with_reducible refine (HS.out _ (by repeat (first | with_reducible exact Up.refl _ | with_reducible apply Up.plus | apply Up.ext | apply Up.alloc | apply Up.drew | (refine Up.setCell ?_ (by simp; try omega) _))) _ hst).mono ?_); intro _))
    go_ret
    exact ⟨rfl, (by repeat (first | with_reducible exact Up.refl _ | with_reducible apply Up.plus | apply Up.ext | apply Up.alloc | apply Up.drew | (refine Up.setCell ?_ (by simp; try omega) _)))⟩
end Go.Proofs.YtnaiaodnnmhdkaaGreat

