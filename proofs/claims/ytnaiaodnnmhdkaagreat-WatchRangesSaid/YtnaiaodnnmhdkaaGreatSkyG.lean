/- Several texts in one. -/
import Derived.Test.YtnaiaodnnmhdkaaGreatWatchO
import Derived.Test.YtnaiaodnnmhdkaaGreatVC
import Derived.Test.YtnaiaodnnmhdkaaGreatModk
import Derived.Test.YtnaiaodnnmhdkaaGreatWatchQ
/- Plain Lean: a range that is read is the sight with the same limits. No program. -/
namespace Go.Proofs.YtnaiaodnnmhdkaaGreat
set_option linter.unusedVariables false
set_option linter.unusedSimpArgs false
open Go.RowKit

def rangeO (o : OffD) : OffD := ⟨2, o.station, o.catalog, o.tick, o.dx, o.dy, o.err.tmod 60, o.far, o.wide, o.cost, o.sure⟩
theorem rangeO_ok {s : SkyD} {o : OffD} (ho : offE s o = 0) : offE s (rangeO o) = 0 ∧ 0 ≤ o.err.tmod 60 ∧ o.err.tmod 60 ≤ 59 := by
  obtain ⟨hs, hk, ht, hst, he, hf, hc, _⟩ := offE_zero ho
  have he2 : o.err.tmod 60 = o.err % 60 := Int.tmod_eq_emod_of_nonneg he.1
  have h1 : 0 ≤ o.err.tmod 60 ∧ o.err.tmod 60 ≤ 59 := by omega
  refine ⟨?_, h1⟩
  have wt : ∀ {x a b : Int}, a ≤ x → x ≤ b → withinB x a b = true := fun h1 h2 => by unfold withinB; exact decide_eq_true ⟨h1, h2⟩
  unfold offE offE0 rangeO
  rw [if_pos hs]
  dsimp only
  rw [if_neg (by omega), if_neg (by rw [ht]; simp), if_neg (by rw [hst]; simp), if_neg (by rw [wt h1.1 (by omega), wt hf.1 hf.2, wt hc.1 hc.2]; simp), if_pos rfl]
theorem range_agree {sq m e : Int} (h0 : 0 ≤ sq) (h1 : sq ≤ 18014398509481984) (m0 : 0 ≤ m) (e0 : 0 ≤ e) : withinB m (upq sq - e) (isq sq + e) = withinB sq (max 0 (m - e) * max 0 (m - e)) ((m + e) * (m + e)) := by
  obtain ⟨a0, a1, a2⟩ := isq_spec sq h0 (by omega)
  have hup := upq_spec (x := sq) h0 (by omega)
  have k1 : upq sq ≤ m + e ↔ sq ≤ (m + e) * (m + e) := by
    unfold upq
    by_cases hc : isq sq * isq sq < sq
    · rw [if_pos hc]
      constructor
      · intro h
        have h2 : isq sq + 1 ≤ m + e := h
        have := Int.mul_le_mul h2 h2 (by omega) (by omega)
        have e2 : (isq sq + 1) * (isq sq + 1) = isq sq * isq sq + 2 * isq sq + 1 := by rw [Int.add_mul, Int.mul_add]; omega
        omega
      · intro h
        refine Int.not_lt.1 fun hl => ?_
        have h2 : m + e ≤ isq sq := by omega
        have := Int.mul_le_mul h2 h2 (by omega) a0
        omega
    · rw [if_neg hc]
      constructor
      · intro h
        have := Int.mul_le_mul h h a0 (by omega)
        omega
      · intro h
        refine Int.not_lt.1 fun hl => ?_
        have h2 : m + e + 1 ≤ isq sq := by omega
        have := Int.mul_le_mul h2 h2 (by omega) a0
        have e2 : (m + e + 1) * (m + e + 1) = (m + e) * (m + e) + 2 * (m + e) + 1 := by rw [Int.add_mul, Int.mul_add]; omega
        omega
  have k2 : m - e ≤ isq sq ↔ max 0 (m - e) * max 0 (m - e) ≤ sq := by
    rcases Int.le_total 0 (m - e) with h | h
    · rw [Int.max_eq_right h]
      constructor
      · intro h2
        have := Int.mul_le_mul h2 h2 h a0
        omega
      · intro h2
        refine Int.not_lt.1 fun hl => ?_
        have h3 : isq sq + 1 ≤ m - e := hl
        have := Int.mul_le_mul h3 h3 (by omega) h
        have e2 : (isq sq + 1) * (isq sq + 1) = isq sq * isq sq + 2 * isq sq + 1 := by rw [Int.add_mul, Int.mul_add]; omega
        omega
    · rw [Int.max_eq_left h]
      constructor
      · intro _; omega
      · intro _; omega
  unfold withinB
  rw [Bool.eq_iff_iff]
  simp only [decide_eq_true_eq]
  omega
theorem ranges_facts {s : SkyD} {o : OffD} {x y : Int} (ho : offE s o = 0) (hf : o.far ≤ 133300000) (hq : PBd (x, y)) :
    ∃ (F : Bool) (l1 l2 : Int) (is : Bool) (R : Int → Bool), fieldV s (rangeO o) (x, y) = F ∧ readsV s (rangeO o) (x, y) = ((l1, l2), is) ∧ (is = true → -60 ≤ l1 ∧ l1 ≤ 133300001) ∧ (-2000000 ≤ l1 ∧ l1 ≤ 135000000) ∧
      (∀ m, 0 ≤ m → withinB ((x - (whereV s o.station o.tick).1) * (x - (whereV s o.station o.tick).1) + (y - (whereV s o.station o.tick).2.1) * (y - (whereV s o.station o.tick).2.1)) (max 0 (m - o.err.tmod 60) * max 0 (m - o.err.tmod 60)) ((m + o.err.tmod 60) * (m + o.err.tmod 60)) = R m) ∧
      (F = true → ∀ m, 0 ≤ m → agreesV s (rangeO o) 2 m (x, y) = R m) := by
  obtain ⟨h2, e0, e1⟩ := rangeO_ok ho
  have hk := kbd_of h2
  have hn := pbd_near hq
  have hF := field_eq h2 hq
  have hsq := (sq_bdK hk hq).2.2.2
  obtain ⟨w1, w2, w3, w4⟩ := knd_wx s (rangeO o)
  have hra : (kndOf s (rangeO o)).sc = false := knd_ra rfl
  have hS : sqK (kndOf s (rangeO o)) (x, y) = (x - (whereV s o.station o.tick).1) * (x - (whereV s o.station o.tick).1) + (y - (whereV s o.station o.tick).2.1) * (y - (whereV s o.station o.tick).2.1) := by
    unfold sqK
    rw [w1, w2]
    rfl
  rw [← hS]
  have hR : readsK (kndOf s (rangeO o)) (x, y) = (upq (sqK (kndOf s (rangeO o)) (x, y)) - o.err.tmod 60, isq (sqK (kndOf s (rangeO o)) (x, y)) + o.err.tmod 60) := by
    unfold readsK
    rw [if_neg (by rw [hra]; simp), w4]
    rfl
  have hag : ∀ v, agreesV s (rangeO o) 2 v (x, y) = (fieldK (kndOf s (rangeO o)) (x, y) && withinB v (readsK (kndOf s (rangeO o)) (x, y)).1 (readsK (kndOf s (rangeO o)) (x, y)).2) := fun v => by unfold agreesV; rw [if_pos ⟨h2, hn⟩, if_neg (by decide), if_neg (by decide), if_pos rfl]
  have hA : fieldK (kndOf s (rangeO o)) (x, y) = true → ∀ m, 0 ≤ m → agreesV s (rangeO o) 2 m (x, y) = withinB (sqK (kndOf s (rangeO o)) (x, y)) (max 0 (m - o.err.tmod 60) * max 0 (m - o.err.tmod 60)) ((m + o.err.tmod 60) * (m + o.err.tmod 60)) := fun hf m m0 => by
    rw [hag, hf, Bool.true_and, hR]
    exact range_agree hsq.1 (by omega) m0 e0
  rcases reads_cases s (rangeO o) (x, y) with ⟨h1, h3, h4⟩ | ⟨_, h4⟩
  · rw [hF] at h1
    have hfar : sqK (kndOf s (rangeO o)) (x, y) ≤ o.far * o.far := by
      have : reachK (kndOf s (rangeO o)) (x, y) = true := by
        unfold fieldK at h1
        simp only [Bool.and_eq_true] at h1
        exact h1.1
      unfold reachK at this
      rw [w3] at this
      exact of_decide_eq_true this
    have hfo : (rangeO o).far = o.far := rfl
    have hf1 := hk.far
    rw [w3, hfo] at hf1
    have hb : upq (sqK (kndOf s (rangeO o)) (x, y)) ≤ o.far ∧ 0 ≤ upq (sqK (kndOf s (rangeO o)) (x, y)) := by
      obtain ⟨a0, a1, a2⟩ := isq_spec (sqK (kndOf s (rangeO o)) (x, y)) hsq.1 (by omega)
      unfold upq
      by_cases hc : isq (sqK (kndOf s (rangeO o)) (x, y)) * isq (sqK (kndOf s (rangeO o)) (x, y)) < sqK (kndOf s (rangeO o)) (x, y)
      · rw [if_pos hc]
        refine ⟨Int.not_lt.1 fun hl => ?_, by omega⟩
        have h5 : o.far ≤ isq (sqK (kndOf s (rangeO o)) (x, y)) := by omega
        have := Int.mul_le_mul h5 h5 (by omega) a0
        omega
      · rw [if_neg hc]
        refine ⟨Int.not_lt.1 fun hl => ?_, a0⟩
        have h5 : o.far + 1 ≤ isq (sqK (kndOf s (rangeO o)) (x, y)) := by omega
        have := Int.mul_le_mul h5 h5 (by omega) a0
        have e2 : (o.far + 1) * (o.far + 1) = o.far * o.far + 2 * o.far + 1 := by rw [Int.add_mul, Int.mul_add]; omega
        omega
    have hl : (readsK (kndOf s (rangeO o)) (x, y)).1 = upq (sqK (kndOf s (rangeO o)) (x, y)) - o.err.tmod 60 := by rw [hR]
    exact ⟨fieldK (kndOf s (rangeO o)) (x, y), _, _, true, _, hF, h4, fun _ => by omega, by omega, fun m _ => rfl, hA⟩
  · exact ⟨fieldK (kndOf s (rangeO o)) (x, y), 0, 0, false, _, hF, h4, fun h => (by cases h), by omega, fun m _ => rfl, hA⟩
end Go.Proofs.YtnaiaodnnmhdkaaGreat

/- Package sky: a range as a sight. Conditions: what lies in memory, bounds. -/
namespace Go.Proofs.YtnaiaodnnmhdkaaGreat
set_option linter.unusedVariables false
set_option linter.unusedSimpArgs false
open Go.RowKit Go.Shelf

set_option maxRecDepth 100000 in
set_option maxHeartbeats 4000000 in
theorem skdist_any {x y u v : Int} (h1 : -70000000 ≤ x - u ∧ x - u ≤ 70000000) (h2 : -70000000 ≤ y - v ∧ y - v ≤ 70000000) (w : World) : Gives Tryz.prog 325 #[.agg #[.int .i64 (x), .int .i64 (y)], .agg #[.int .i64 (u), .int .i64 (v)]] w (.int .i64 ((x - u) * (x - u) + (y - v) * (y - v))) := by
  have m1 := mul_abs h1.1 h1.2 h1.1 h1.2
  have m2 := mul_abs h2.1 h2.2 h2.1 h2.2
  have e : (70000000 : Int) * 70000000 = 4900000000000000 := by decide
  rw [e] at m1 m2
  (unfold Gives; go_enter Tryz.func325, Tryz.ntmps325)
  go_wp2
  go_ret
  exact ⟨rfl, (by repeat (first | with_reducible exact Up.refl _ | with_reducible apply Up.plus | apply Up.ext | apply Up.alloc | apply Up.drew | (refine Up.setCell ?_ (by simp; try omega) _)))⟩
abbrev mAgr : String := theName (show (bodyNames Tryz.f32)[0]? = some _ from rfl)
theorem meth_reach (v : Value) (n : Nat) (w : World) : (method (n + 1) 208 v mAgr).run Tryz.prog w = .ok (324, v) w := by kernel_rfl
set_option maxRecDepth 100000 in
set_option maxHeartbeats 4000000 in
theorem skreach_any {x y u v lo hi : Int} (h1 : -70000000 ≤ x - u ∧ x - u ≤ 70000000) (h2 : -70000000 ≤ y - v ∧ y - v ≤ 70000000) (hlo : 0 ≤ lo ∧ lo ≤ hi ∧ hi ≤ 134217728) (w : World) : Gives Tryz.prog 324 #[.agg #[.int .i64 (u), .int .i64 (v), .int .i64 (lo), .int .i64 (hi)], .agg #[.int .i64 (x), .int .i64 (y)]] w (.bool (withinB ((x - u) * (x - u) + (y - v) * (y - v)) (lo * lo) (hi * hi))) := by
  have HD := hide (fun W => skdist_any h1 h2 W)
  have HW := hide (fun n lo hi W => skwithin_any n lo hi W)
  have m1 := mul_abs (x := lo) (y := lo) (B := 134217728) (C := 134217728) (by omega) (by omega) (by omega) (by omega)
  have m2 := mul_abs (x := hi) (y := hi) (B := 134217728) (C := 134217728) (by omega) (by omega) (by omega) (by omega)
  have e : (134217728 : Int) * 134217728 = 18014398509481984 := by decide
  rw [e] at m1 m2
  generalize (x - u) * (x - u) + (y - v) * (y - v) = D at *
  obtain ⟨L, hL⟩ : ∃ L, lo * lo = L := ⟨_, rfl⟩
  obtain ⟨M, hM⟩ : ∃ L, hi * hi = L := ⟨_, rfl⟩
  rw [hL] at m1
  rw [hM] at m2
  rw [hL, hM]
  clear h1 h2
  (unfold Gives; go_enter Tryz.func324, Tryz.ntmps324)
  go_wp2_with (first | (go_at_call 325; (with_reducible refine (HD.out _).mono ?_); intro _) | (go_at_call 84; (with_reducible refine (HW.out _ _ _ _).mono ?_); intro _))
  go_ret
  exact ⟨rfl, (by repeat (first | with_reducible exact Up.refl _ | with_reducible apply Up.plus | apply Up.ext | apply Up.alloc | apply Up.drew | (refine Up.setCell ?_ (by simp; try omega) _)))⟩
set_option maxRecDepth 100000 in
set_option maxHeartbeats 4000000 in
theorem station_there {s : SkyD} {id : Int} (h : (s.stations.any fun x => x.1 == id) = true) : (stationV s id).2 = true := by
  unfold stationV
  cases hf : s.stations.find? (fun x => x.1 == id) with
  | some x => rfl
  | none =>
    rw [List.any_eq_true] at h
    obtain ⟨x, hx, hxe⟩ := h
    exact absurd hxe (List.find?_eq_none.1 hf x hx)
set_option maxRecDepth 100000 in
set_option maxHeartbeats 4000000 in
theorem sksight_range {K : Nat → Prop} {w : World} {a sa ca : Option Addr} {n c sn sc cn cc : Nat} {s : SkyD} (hL : SkyL K w a n c sa sn sc ca cn cc s) {st ct t d1 d2 er lo hi : Int} (hs : skyE s = 0) (ht : withinB t 0 1073741824 = true) (hst : (s.stations.any fun x => x.1 == st) = true) (hlo : 0 ≤ lo ∧ lo ≤ hi ∧ hi ≤ 134217728) : Gives Tryz.prog 31 #[.agg #[.slice a n c, .int .i64 s.home, .slice sa sn sc, .slice ca cn cc], .agg #[.int .i64 (2), .int .i64 (st), .int .i64 (ct), .int .i64 (t), .int .i64 (d1), .int .i64 (d2), .int .i64 (er), .int .i64 (lo), .int .i64 (hi)]] w (.int .i64 0) := by
  have HC := hide (fun W (hu : Up w W) => skcheck_any (hL.up hu).b hL.h (hL.up hu).st (hL.up hu).ca)
  rw [hs] at HC
  have HW := hide (fun W => skwithin_any t 0 1073741824 W)
  rw [ht] at HW
  have HS := hide (fun W (hu : Up w W) => skstation_any (vb := .nilIface) (a := a) (n := n) (c := c) (ca := ca) (cn := cn) (cc := cc) (home := s.home) (hL.up hu).st st)
  rw [station_there hst] at HS
  have b1 : decide (lo < 0) = false := decide_eq_false (by omega)
  have b2 : decide (hi < lo) = false := decide_eq_false (by omega)
  have b3 : decide (134217728 < hi) = false := decide_eq_false (by omega)
  generalize (stationV s st).1 = S at *
  generalize s.home = home at *
  clear hL hs ht hst
  (unfold Gives; go_enter Tryz.func31, Tryz.ntmps31)
  go_wp2_with fail
  go_at_call 60
  refine forgetK (fun wr => Up w wr ∧ Box wr w.heap.size #[.slice a n c, .int .i64 home, .slice sa sn sc, .slice ca cn cc] 28 ∧ Box wr (w.heap.size + 1) #[.int .i64 (2), .int .i64 (st), .int .i64 (ct), .int .i64 (t), .int .i64 (d1), .int .i64 (d2), .int .i64 (er), .int .i64 (lo), .int .i64 (hi)] 63) ⟨(by repeat (first | with_reducible exact Up.refl _ | with_reducible apply Up.plus | apply Up.ext | apply Up.alloc | apply Up.drew | (refine Up.setCell ?_ (by simp; try omega) _))), (by repeat (first | exact Box.mk rfl | (refine Box.mk ?_; simp; done) | apply Box.ext | apply Box.drew | apply Box.alloc | apply Box.two1 | (refine Box.other ?_ (by omega) _ _))), (by repeat (first | exact Box.mk rfl | (refine Box.mk ?_; simp; done) | apply Box.ext | apply Box.drew | apply Box.alloc | apply Box.two1 | (refine Box.other ?_ (by omega) _ _)))⟩ ?_
  rintro V0 ⟨hu, b0, b1⟩
  have HB0 := hide (And.intro hu (And.intro b0 b1))
  clear hu b0 b1
  have s0 := (HB0.out.2.1).cell 0 rfl
  have s1 := (HB0.out.2.1).cell 1 rfl
  have s2 := (HB0.out.2.1).cell 2 rfl
  have s3 := (HB0.out.2.1).cell 3 rfl
  have ls := (HB0.out.2.1).lt
  have x0 := (HB0.out.2.2).cell 0 rfl
  have x1 := (HB0.out.2.2).cell 1 rfl
  have x2 := (HB0.out.2.2).cell 2 rfl
  have x3 := (HB0.out.2.2).cell 3 rfl
  have x4 := (HB0.out.2.2).cell 4 rfl
  have x5 := (HB0.out.2.2).cell 5 rfl
  have x6 := (HB0.out.2.2).cell 6 rfl
  have x7 := (HB0.out.2.2).cell 7 rfl
  have x8 := (HB0.out.2.2).cell 8 rfl
  have lx := (HB0.out.2.2).lt
  refine (HC.out _ (by repeat (first | with_reducible exact HB0.out.1 | with_reducible exact Up.refl _ | with_reducible apply Up.ext | with_reducible apply Up.alloc | with_reducible apply Up.drew | (with_reducible refine Up.setCell ?_ (by simp only; omega) _)))).mono ?_
  intro q1
  go_wp2_with (first | (go_at_call 84; (with_reducible refine (HW.out _).mono ?_); intro _) | (go_at_call 85; (with_reducible refine (HS.out _ (by repeat (first | with_reducible exact HB0.out.1 | with_reducible exact Up.refl _ | with_reducible apply Up.ext | with_reducible apply Up.alloc | with_reducible apply Up.drew | (with_reducible refine Up.setCell ?_ (by simp only; omega) _)))).mono ?_); intro _))
  go_ret
  exact ⟨rfl, (by repeat (first | with_reducible exact HB0.out.1 | with_reducible exact Up.refl _ | with_reducible apply Up.ext | with_reducible apply Up.alloc | with_reducible apply Up.drew | (with_reducible refine Up.setCell ?_ (by simp only; omega) _)))⟩
set_option maxRecDepth 100000 in
set_option maxHeartbeats 4000000 in
theorem sklook_range {K : Nat → Prop} {w : World} {a sa ca : Option Addr} {n c sn sc cn cc : Nat} {s : SkyD} (hL : SkyL K w a n c sa sn sc ca cn cc s) {st ct t d1 d2 er lo hi : Int} (hs : skyE s = 0) (ht : withinB t 0 1073741824 = true) (hst : (s.stations.any fun x => x.1 == st) = true) (hlo : 0 ≤ lo ∧ lo ≤ hi ∧ hi ≤ 134217728) : Gives Tryz.prog 88 #[.agg #[.slice a n c, .int .i64 s.home, .slice sa sn sc, .slice ca cn cc], .agg #[.int .i64 (2), .int .i64 (st), .int .i64 (ct), .int .i64 (t), .int .i64 (d1), .int .i64 (d2), .int .i64 (er), .int .i64 (lo), .int .i64 (hi)]] w (.iface 208 (.agg #[.int .i64 ((whereV s st t).1), .int .i64 ((whereV s st t).2.1), .int .i64 (lo), .int .i64 (hi)])) := by
  have HW := hide (fun W (hu : Up w W) => skwhere_any (hL.up hu).b hL.h (hL.up hu).st (hL.up hu).ca st t)
  generalize (whereV s st t).1 = u at *
  generalize (whereV s st t).2.1 = v at *
  generalize (whereV s st t).2.2 = b at *
  generalize s.home = home at *
  clear hL hs ht hst hlo
  (unfold Gives; go_enter Tryz.func88, Tryz.ntmps88)
  go_wp2_with fail
  go_at_call 113
  refine forgetK (fun wr => Up w wr ∧ Box wr w.heap.size #[.slice a n c, .int .i64 home, .slice sa sn sc, .slice ca cn cc] 28 ∧ Box wr (w.heap.size + 1) #[.int .i64 (2), .int .i64 (st), .int .i64 (ct), .int .i64 (t), .int .i64 (d1), .int .i64 (d2), .int .i64 (er), .int .i64 (lo), .int .i64 (hi)] 63) ⟨(by repeat (first | with_reducible exact Up.refl _ | with_reducible apply Up.plus | apply Up.ext | apply Up.alloc | apply Up.drew | (refine Up.setCell ?_ (by simp; try omega) _))), (by repeat (first | exact Box.mk rfl | (refine Box.mk ?_; simp; done) | apply Box.ext | apply Box.drew | apply Box.alloc | apply Box.two1 | (refine Box.other ?_ (by omega) _ _))), (by repeat (first | exact Box.mk rfl | (refine Box.mk ?_; simp; done) | apply Box.ext | apply Box.drew | apply Box.alloc | apply Box.two1 | (refine Box.other ?_ (by omega) _ _)))⟩ ?_
  rintro V0 ⟨hu, b0, b1⟩
  have HB0 := hide (And.intro hu (And.intro b0 b1))
  clear hu b0 b1
  have s0 := (HB0.out.2.1).cell 0 rfl
  have s1 := (HB0.out.2.1).cell 1 rfl
  have s2 := (HB0.out.2.1).cell 2 rfl
  have s3 := (HB0.out.2.1).cell 3 rfl
  have ls := (HB0.out.2.1).lt
  have x0 := (HB0.out.2.2).cell 0 rfl
  have x1 := (HB0.out.2.2).cell 1 rfl
  have x2 := (HB0.out.2.2).cell 2 rfl
  have x3 := (HB0.out.2.2).cell 3 rfl
  have x4 := (HB0.out.2.2).cell 4 rfl
  have x5 := (HB0.out.2.2).cell 5 rfl
  have x6 := (HB0.out.2.2).cell 6 rfl
  have x7 := (HB0.out.2.2).cell 7 rfl
  have x8 := (HB0.out.2.2).cell 8 rfl
  have lx := (HB0.out.2.2).lt
  refine (HW.out _ (by repeat (first | with_reducible exact HB0.out.1 | with_reducible exact Up.refl _ | with_reducible apply Up.ext | with_reducible apply Up.alloc | with_reducible apply Up.drew | (with_reducible refine Up.setCell ?_ (by simp only; omega) _)))).mono ?_
  intro q1
  go_wp2
  go_ret
  exact ⟨rfl, (by repeat (first | with_reducible exact HB0.out.1 | with_reducible exact Up.refl _ | with_reducible apply Up.ext | with_reducible apply Up.alloc | with_reducible apply Up.drew | (with_reducible refine Up.setCell ?_ (by simp only; omega) _)))⟩
set_option maxRecDepth 100000 in
set_option maxHeartbeats 4000000 in
theorem skagrees_range {K : Nat → Prop} {w : World} {a sa ca : Option Addr} {n c sn sc cn cc : Nat} {s : SkyD} (hL : SkyL K w a n c sa sn sc ca cn cc s) {st ct t d1 d2 er lo hi : Int} (hs : skyE s = 0) (ht : withinB t 0 1073741824 = true) (hst : (s.stations.any fun x => x.1 == st) = true) (hlo : 0 ≤ lo ∧ lo ≤ hi ∧ hi ≤ 134217728) {x y : Int} (hp : PBd (x, y)) : Gives Tryz.prog 32 #[.agg #[.slice a n c, .int .i64 s.home, .slice sa sn sc, .slice ca cn cc], .agg #[.int .i64 (2), .int .i64 (st), .int .i64 (ct), .int .i64 (t), .int .i64 (d1), .int .i64 (d2), .int .i64 (er), .int .i64 (lo), .int .i64 (hi)], .agg #[.int .i64 (x), .int .i64 (y)]] w (.bool (withinB ((x - (whereV s st t).1) * (x - (whereV s st t).1) + (y - (whereV s st t).2.1) * (y - (whereV s st t).2.1)) (lo * lo) (hi * hi))) := by
  have HC := hide (fun W (hu : Up w W) => sksight_range (hL.up hu) (ct := ct) (d1 := d1) (d2 := d2) (er := er) hs ht hst hlo)
  have HN := hide (fun W => sknear_any x y 33554432 (by omega) (by omega) W)
  rw [show nearV 33554432 (x, y) = true from (nearV_iff _ _).2 hp] at HN
  have HO := hide (fun W (hu : Up w W) => sklook_range (hL.up hu) (ct := ct) (d1 := d1) (d2 := d2) (er := er) hs ht hst hlo)
  obtain ⟨_, _, _, _, _, _, _, hb1, hb2⟩ := where_ok hs ht hst
  obtain ⟨⟨p1, p2⟩, p3, p4⟩ := hp
  dsimp only at p1 p2 p3 p4
  generalize (whereV s st t).1 = u at *
  generalize (whereV s st t).2.1 = v at *
  have HR := hide (fun W => skreach_any (x := x) (y := y) (u := u) (v := v) ⟨by omega, by omega⟩ ⟨by omega, by omega⟩ hlo W)
  have hm := fun (n : Nat) (w : World) => meth_reach (.agg #[.int .i64 (u), .int .i64 (v), .int .i64 (lo), .int .i64 (hi)]) n w
  simp only [mAgr, theName] at hm
  generalize withinB ((x - u) * (x - u) + (y - v) * (y - v)) (lo * lo) (hi * hi) = R at *
  generalize s.home = home at *
  clear hL hs ht hst hlo hb1 hb2 p1 p2 p3 p4
  (unfold Gives; go_enter Tryz.func32, Tryz.ntmps32)
  go_wp2_with fail
  refine forgetW (fun wr => Up w wr ∧ Box wr w.heap.size #[.slice a n c, .int .i64 home, .slice sa sn sc, .slice ca cn cc] 28 ∧ Box wr (w.heap.size + 1) #[.int .i64 (2), .int .i64 (st), .int .i64 (ct), .int .i64 (t), .int .i64 (d1), .int .i64 (d2), .int .i64 (er), .int .i64 (lo), .int .i64 (hi)] 63 ∧ Box wr (w.heap.size + 1 + 1) #[.int .i64 (x), .int .i64 (y)] 30) ⟨(by repeat (first | with_reducible exact Up.refl _ | with_reducible apply Up.plus | apply Up.ext | apply Up.alloc | apply Up.drew | (refine Up.setCell ?_ (by simp; try omega) _))), (by repeat (first | exact Box.mk rfl | (refine Box.mk ?_; simp; done) | apply Box.ext | apply Box.drew | apply Box.alloc | apply Box.two1 | (refine Box.other ?_ (by omega) _ _))), (by repeat (first | exact Box.mk rfl | (refine Box.mk ?_; simp; done) | apply Box.ext | apply Box.drew | apply Box.alloc | apply Box.two1 | (refine Box.other ?_ (by omega) _ _))), (by repeat (first | exact Box.mk rfl | (refine Box.mk ?_; simp; done) | apply Box.ext | apply Box.drew | apply Box.alloc | apply Box.two1 | (refine Box.other ?_ (by omega) _ _)))⟩ ?_
  rintro V0 ⟨hu, b0, b1, b2⟩
  have HB0 := hide (And.intro hu (And.intro b0 (And.intro b1 b2)))
  clear hu b0 b1 b2
  have s0 := (HB0.out.2.1).cell 0 rfl
  have s1 := (HB0.out.2.1).cell 1 rfl
  have s2 := (HB0.out.2.1).cell 2 rfl
  have s3 := (HB0.out.2.1).cell 3 rfl
  have ls := (HB0.out.2.1).lt
  have x0 := (HB0.out.2.2.1).cell 0 rfl
  have x1 := (HB0.out.2.2.1).cell 1 rfl
  have x2 := (HB0.out.2.2.1).cell 2 rfl
  have x3 := (HB0.out.2.2.1).cell 3 rfl
  have x4 := (HB0.out.2.2.1).cell 4 rfl
  have x5 := (HB0.out.2.2.1).cell 5 rfl
  have x6 := (HB0.out.2.2.1).cell 6 rfl
  have x7 := (HB0.out.2.2.1).cell 7 rfl
  have x8 := (HB0.out.2.2.1).cell 8 rfl
  have lx := (HB0.out.2.2.1).lt
  have g0 := (HB0.out.2.2.2).cell 0 rfl
  have g1 := (HB0.out.2.2.2).cell 1 rfl
  have lg := (HB0.out.2.2.2).lt
  ((first | with_reducible refine wp_region_ext2 (by kernel_rfl) (by kernel_rfl) ?_ | refine wp_region_ext (by kernel_rfl) (by kernel_rfl) ?_); (repeat (go_big_quiet_step ((first | (go_at_call 31; with_reducible exact Gives.inRegion (HC.out _ (by repeat (first | with_reducible exact HB0.out.1 | with_reducible exact Up.refl _ | with_reducible apply Up.ext | with_reducible apply Up.alloc | with_reducible apply Up.drew | (with_reducible refine Up.setCell ?_ (by simp only; omega) _))))) | (go_at_call 87; with_reducible exact Gives.inRegion (HN.out _)) | (go_at_call 88; with_reducible exact Gives.inRegion (HO.out _ (by repeat (first | with_reducible exact HB0.out.1 | with_reducible exact Up.refl _ | with_reducible apply Up.ext | with_reducible apply Up.alloc | with_reducible apply Up.drew | (with_reducible refine Up.setCell ?_ (by simp only; omega) _))))) | (go_at_call 324; with_reducible exact Gives.inRegion (HR.out _)))))); refine wpQuiet_nil ?_; intro _ hw'; obtain ⟨_, hw''⟩ := hw'; subst hw'')
  go_wp2
  go_ret
  exact ⟨rfl, (by repeat (first | with_reducible exact HB0.out.1 | with_reducible exact Up.refl _ | with_reducible apply Up.ext | with_reducible apply Up.alloc | with_reducible apply Up.drew | (with_reducible refine Up.setCell ?_ (by simp only; omega) _)))⟩
end Go.Proofs.YtnaiaodnnmhdkaaGreat

