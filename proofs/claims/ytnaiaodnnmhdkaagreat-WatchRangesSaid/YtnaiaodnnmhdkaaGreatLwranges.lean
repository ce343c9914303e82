/- WatchRanges returns true for every input: a range that is read is the sight with the same limits. No conditions. -/
import Derived.Test.YtnaiaodnnmhdkaaGreatW6l
import Derived.Test.YtnaiaodnnmhdkaaGreatSkyG
import Derived.Test.YtnaiaodnnmhdkaaGreatModk
import Derived.Test.YtnaiaodnnmhdkaaGreatPostn
import Derived.Test.YtnaiaodnnmhdkaaGreatFloat
import Derived.JoinedOf
import Derived.JoinedAt
import Derived.ChangeSame
import Derived.OpenShut
namespace Go.Proofs.YtnaiaodnnmhdkaaGreat
set_option linter.unusedVariables false
set_option linter.unusedSimpArgs false
open Go.RowKit Go.ChangeShapes Go.WideShapes Go.ChangeAt Go.Joins Go.Shelf

theorem sky_of {s : SkyD} {o : OffD} (ho : offE s o = 0) : skyE s = 0 ∧ withinB o.tick 0 1073741824 = true ∧ (s.stations.any fun x => x.1 == o.station) = true :=
  let ⟨h1, _, h2, h3, _⟩ := offE_zero ho; ⟨h1, h2, h3⟩
section
variable {w : World} {a : Option Addr} {n c : Nat} {sa : Option Addr} {sn sc : Nat} {ca : Option Addr} {cn cc : Nat} {s : SkyD} {home : Int} {X Y : Int} {o2 : OffD} {G : Nat} {V : World}
theorem M6.sight (h : M6 w a n c sa sn sc ca cn cc s home X Y o2 G V) (ho : offE s o2 = 0) {lo hi : Int} (hlo : 0 ≤ lo ∧ lo ≤ hi ∧ hi ≤ 134217728) :
    Gives Tryz.prog 31 #[.agg #[.slice a n c, .int .i64 home, .slice sa sn sc, .slice ca cn cc], .agg #[.int .i64 (2), .int .i64 (o2.station), .int .i64 (0), .int .i64 (o2.tick), .int .i64 (0), .int .i64 (0), .int .i64 (0), .int .i64 (lo), .int .i64 (hi)]] V (.int .i64 0) := by
  obtain ⟨h1, h2, h3⟩ := sky_of ho
  have := sksight_range h.l (st := o2.station) (ct := 0) (t := o2.tick) (d1 := 0) (d2 := 0) (er := 0) h1 h2 h3 hlo
  rw [h.h] at this
  exact this
theorem M6.looks (h : M6 w a n c sa sn sc ca cn cc s home X Y o2 G V) (ho : offE s o2 = 0) {lo hi : Int} (hlo : 0 ≤ lo ∧ lo ≤ hi ∧ hi ≤ 134217728) {x y : Int} (hp : PBd (x, y)) {R : Bool}
    (hR : withinB ((x - (whereV s o2.station o2.tick).1) * (x - (whereV s o2.station o2.tick).1) + (y - (whereV s o2.station o2.tick).2.1) * (y - (whereV s o2.station o2.tick).2.1)) (lo * lo) (hi * hi) = R) :
    Gives Tryz.prog 32 #[.agg #[.slice a n c, .int .i64 home, .slice sa sn sc, .slice ca cn cc], .agg #[.int .i64 (2), .int .i64 (o2.station), .int .i64 (0), .int .i64 (o2.tick), .int .i64 (0), .int .i64 (0), .int .i64 (0), .int .i64 (lo), .int .i64 (hi)], .agg #[.int .i64 (x), .int .i64 (y)]] V (.bool R) := by
  obtain ⟨h1, h2, h3⟩ := sky_of ho
  have := skagrees_range h.l (st := o2.station) (ct := 0) (t := o2.tick) (d1 := 0) (d2 := 0) (er := 0) h1 h2 h3 hlo hp
  rw [h.h, hR] at this
  exact this
end
set_option maxRecDepth 100000 in
set_option maxHeartbeats 100000000 in
theorem wranges_law (v0 : Value) {w : World} (hN : Nums w v0) (dx dy va : Int) (bdx : -9223372036854775808 ≤ dx ∧ dx ≤ 9223372036854775807) (bdy : -9223372036854775808 ≤ dy ∧ dy ≤ 9223372036854775807) (bva : -9223372036854775808 ≤ va ∧ va ≤ 9223372036854775807) :
    Gives Tryz.prog 5 #[v0, .int .i64 dx, .int .i64 dy, .int .i64 va] w (.bool true) := by
  have HM := hide (made6_any hN)
  have HA := hide (fun w => awake6_any w)
  clear hN
  (unfold Gives; go_enter Tryz.func5, Tryz.ntmps5)
  go_wp2_with fail
  go_at_call 28
  refine HM.out.mono ?_
  rintro _ W ⟨r, a, n, c, sa, sn, sc, ca, cn, cc, s, X, Y, o, p, rfl, hL, hXY, ⟨ho, hfar⟩, hW⟩
  have hu : Up w W := ⟨p, hW⟩
  clear hW HM
  obtain ⟨home, hhome⟩ : ∃ h, s.home = h := ⟨_, rfl⟩
  rw [hhome]
  go_wp2_with fail
  go_at_call 29
  obtain ⟨G, hG⟩ : ∃ G, W.heap.size = G := ⟨_, rfl⟩
  rw [hG]
  refine forgetC (M6 w a n c sa sn sc ca cn cc s home X Y (rangeO o) G) ⟨(by repeat (first | with_reducible exact hu | with_reducible exact Up.refl _ | apply Up.ext | apply Up.alloc | apply Up.drew | (refine Up.setCell ?_ (by simp [World.setCell]; try omega) _))), hL.up (by repeat (first | with_reducible exact Up.refl _ | with_reducible apply Up.plus | apply Up.ext | apply Up.alloc | apply Up.drew | (refine Up.setCell ?_ (by simp; try omega) _))), hhome, by rw [← hG]; exact (by repeat (first | exact Box.mk rfl | (refine Box.mk ?_; simp; done) | apply Box.ext | apply Box.drew | apply Box.alloc | apply Box.two1 | (refine Box.other ?_ (by omega) _ _))), by rw [← hG]; exact (by repeat (first | exact Box.mk rfl | (refine Box.mk ?_; simp; done) | apply Box.ext | apply Box.drew | apply Box.alloc | apply Box.two1 | (refine Box.other ?_ (by omega) _ _))), by rw [← hG]; exact (by repeat (first | exact Box.mk rfl | (refine Box.mk ?_; simp; done) | apply Box.ext | apply Box.drew | apply Box.alloc | apply Box.two1 | (refine Box.other ?_ (by omega) _ _)))⟩ ?_
  intro V hV
  have HV := hide hV
  have KN := hide (fun U => near6_any X Y dx dy (by omega) (by omega) bdx bdy U)
  obtain ⟨x2, hx2, x20, x21⟩ : ∃ x, X + dx % 601 - 300 = x ∧ -4300 ≤ x ∧ x ≤ 4300 := ⟨_, rfl, by omega, by omega⟩
  obtain ⟨y2, hy2, y20, y21⟩ : ∃ x, Y + dy % 601 - 300 = x ∧ -4300 ≤ x ∧ x ≤ 4300 := ⟨_, rfl, by omega, by omega⟩
  rw [hx2, hy2] at KN
  have hq : PBd (x2, y2) := by unfold PBd; dsimp only; omega
  obtain ⟨F, l1, l2, is, R, g1, g2, c1, c2, hR, hA⟩ := ranges_facts ho hfar hq
  obtain ⟨ho2, e0', e1'⟩ := rangeO_ok ho
  have e0 : 0 ≤ (rangeO o).err := e0'
  have e1 : (rangeO o).err ≤ 59 := e1'
  replace hR : ∀ m, 0 ≤ m → withinB ((x2 - (whereV s (rangeO o).station (rangeO o).tick).1) * (x2 - (whereV s (rangeO o).station (rangeO o).tick).1) + (y2 - (whereV s (rangeO o).station (rangeO o).tick).2.1) * (y2 - (whereV s (rangeO o).station (rangeO o).tick).2.1)) (max 0 (m - (rangeO o).err) * max 0 (m - (rangeO o).err)) ((m + (rangeO o).err) * (m + (rangeO o).err)) = R m := hR
  clear e0' e1' ho
  generalize rangeO o = oz at *
  have HO := hide ho2
  have HQ := hide hq
  replace g1 := hide g1
  replace g2 := hide g2
  replace hR := hide hR
  replace hA := hide hA
  have KM := hide (fun U => mod64_any va 12000 (by omega) (by omega) (by omega) (by omega) U)
  obtain ⟨M0, hM0, m00, m01⟩ : ∃ x, va % 12000 = x ∧ 0 ≤ x ∧ x ≤ 11999 := ⟨_, rfl, by omega, by omega⟩
  rw [hM0] at KM
  have h3 : -2 ≤ va.tmod 3 ∧ va.tmod 3 ≤ 2 := by
    rcases Int.le_total 0 va with h | h
    · rw [Int.tmod_eq_emod_of_nonneg h]; omega
    · have h5 := Int.neg_tmod (a := -va) (b := 3)
      rw [Int.neg_neg] at h5
      rw [h5, Int.tmod_eq_emod_of_nonneg (by omega)]
      omega
  clear hu hL hhome hG hV ho2 hfar hq hx2 hy2 hM0 bdx bdy hXY x20 x21 y20 y21
  refine (KN.out _).mono ?_
  intro e1
  have k0 := HV.out.s.cell 0 rfl
  have k1 := HV.out.s.cell 1 rfl
  have k2 := HV.out.s.cell 2 rfl
  have k3 := HV.out.s.cell 3 rfl
  have lk := HV.out.s.lt
  have o0 := HV.out.o.cell 0 rfl
  have o1 := HV.out.o.cell 1 rfl
  have o2 := HV.out.o.cell 2 rfl
  have o3 := HV.out.o.cell 3 rfl
  have o4 := HV.out.o.cell 4 rfl
  have o5 := HV.out.o.cell 5 rfl
  have o6 := HV.out.o.cell 6 rfl
  have o7 := HV.out.o.cell 7 rfl
  have o8 := HV.out.o.cell 8 rfl
  have o9 := HV.out.o.cell 9 rfl
  have o10 := HV.out.o.cell 10 rfl
  have lo := HV.out.o.lt

  go_wp2_with fail
  go_at_call 14
  obtain ⟨H, hH⟩ : ∃ H, H = V.heap.size + e1.os.size := ⟨_, rfl⟩
  rw [← hH]
  refine forgetC (fun U => Up V U ∧ Box U H #[.int .i64 (x2), .int .i64 (y2)] 30) ⟨(by repeat (first | with_reducible exact Up.refl _ | with_reducible apply Up.plus | apply Up.ext | apply Up.alloc | apply Up.drew | (refine Up.setCell ?_ (by simp; try omega) _))), by rw [hH]; exact Box.mk (ext_size _ _)⟩ ?_
  rintro U ⟨hu, bh⟩
  have HB := hide (And.intro (HV.out.more hu) bh)
  clear hu bh HV KN hH k0 k1 k2 k3 lk o0 o1 o2 o3 o4 o5 o6 o7 o8 o9 o10 lo
  refine (HB.out.1.reads g2.out).mono ?_
  intro e2
  have h0 := HB.out.2.cell 0 rfl
  have h1 := HB.out.2.cell 1 rfl
  have lh := HB.out.2.lt
  have k0 := HB.out.1.s.cell 0 rfl
  have k1 := HB.out.1.s.cell 1 rfl
  have k2 := HB.out.1.s.cell 2 rfl
  have k3 := HB.out.1.s.cell 3 rfl
  have lk := HB.out.1.s.lt
  have o0 := HB.out.1.o.cell 0 rfl
  have o1 := HB.out.1.o.cell 1 rfl
  have o2 := HB.out.1.o.cell 2 rfl
  have o3 := HB.out.1.o.cell 3 rfl
  have o4 := HB.out.1.o.cell 4 rfl
  have o5 := HB.out.1.o.cell 5 rfl
  have o6 := HB.out.1.o.cell 6 rfl
  have o7 := HB.out.1.o.cell 7 rfl
  have o8 := HB.out.1.o.cell 8 rfl
  have o9 := HB.out.1.o.cell 9 rfl
  have o10 := HB.out.1.o.cell 10 rfl
  have lo := HB.out.1.o.lt

  go_wp2_with fail
  go_at_call 30
  obtain ⟨T, hT⟩ : ∃ T, T = U.heap.size + e2.os.size := ⟨_, rfl⟩
  rw [← hT]
  refine forgetC (fun wr => M6 w a n c sa sn sc ca cn cc s home X Y oz G wr ∧ Box wr H #[.int .i64 (x2), .int .i64 (y2)] 30 ∧ Box wr T #[.int .i64 (l1), .int .i64 (l2)] 38) ⟨HB.out.1.more (by repeat (first | with_reducible exact Up.refl _ | with_reducible apply Up.plus | apply Up.ext | apply Up.alloc | apply Up.drew | (refine Up.setCell ?_ (by simp; try omega) _))), (by repeat (first | with_reducible exact HB.out.2 | with_reducible apply Box.ext | with_reducible apply Box.alloc | with_reducible apply Box.drew | (with_reducible refine Box.other ?_ (by omega) _ _))), by rw [hT]; exact Box.mk (ext_size _ _)⟩ ?_
  rintro V2 ⟨hv, bh, bt⟩
  have HC := hide (And.intro hv (And.intro bh bt))
  clear hv bh bt HB hT h0 h1 lh k0 k1 k2 k3 lk o0 o1 o2 o3 o4 o5 o6 o7 o8 o9 o10 lo
  refine (KM.out _).mono ?_
  intro e3
  by_cases his : is = true
  rotate_left
  · obtain rfl : is = false := by simpa using his
    have k0 := HC.out.1.s.cell 0 rfl
    have k1 := HC.out.1.s.cell 1 rfl
    have k2 := HC.out.1.s.cell 2 rfl
    have k3 := HC.out.1.s.cell 3 rfl
    have lk := HC.out.1.s.lt
    have o0 := HC.out.1.o.cell 0 rfl
    have o1 := HC.out.1.o.cell 1 rfl
    have o2 := HC.out.1.o.cell 2 rfl
    have o3 := HC.out.1.o.cell 3 rfl
    have o4 := HC.out.1.o.cell 4 rfl
    have o5 := HC.out.1.o.cell 5 rfl
    have o6 := HC.out.1.o.cell 6 rfl
    have o7 := HC.out.1.o.cell 7 rfl
    have o8 := HC.out.1.o.cell 8 rfl
    have o9 := HC.out.1.o.cell 9 rfl
    have o10 := HC.out.1.o.cell 10 rfl
    have lo := HC.out.1.o.lt
    have h0 := HC.out.2.1.cell 0 rfl
    have h1 := HC.out.2.1.cell 1 rfl
    have lh := HC.out.2.1.lt
    have t0 := HC.out.2.2.cell 0 rfl
    have t1 := HC.out.2.2.cell 1 rfl
    have lt := HC.out.2.2.lt
    have d0 : decide (M0 < 0) = false := decide_eq_false (by omega)
    have hm0 : (0 : Int) ≤ M0 := by omega
    have hLH : 0 ≤ (max 0 (M0 - oz.err)) ∧ (max 0 (M0 - oz.err)) ≤ (M0 + oz.err) ∧ (M0 + oz.err) ≤ 134217728 := by omega
    have hLK := HC.out.2.2.lt
    go_wp2_with fail
    go_at_call 31
    obtain ⟨Z, hZ⟩ : ∃ Z, Z = V2.heap.size + e3.os.size := ⟨_, rfl⟩
    rw [← hZ]
    refine forgetC (fun wr => M6 w a n c sa sn sc ca cn cc s home X Y oz G wr ∧ Box wr H #[.int .i64 (x2), .int .i64 (y2)] 30 ∧ Box wr Z #[.int .i64 (2), .int .i64 (oz.station), .int .i64 (0), .int .i64 (oz.tick), .int .i64 (0), .int .i64 (0), .int .i64 (0), .int .i64 ((max 0 (M0 - oz.err))), .int .i64 ((M0 + oz.err))] 63) ⟨HC.out.1.more (by repeat (first | with_reducible exact Up.refl _ | with_reducible apply Up.plus | apply Up.ext | apply Up.alloc | apply Up.drew | (refine Up.setCell ?_ (by simp; try omega) _))), (by repeat (first | with_reducible exact HC.out.2.1 | with_reducible apply Box.ext | with_reducible apply Box.alloc | with_reducible apply Box.drew | (with_reducible refine Box.other ?_ (by omega) _ _))), by rw [hZ]; exact Box.mk (ext_size _ _)⟩ ?_
    rintro V3 ⟨hv, bh, bz⟩
    have HD := hide (And.intro hv (And.intro bh bz))
    clear hv bh bz HC hZ hLK k0 k1 k2 k3 lk o0 o1 o2 o3 o4 o5 o6 o7 o8 o9 o10 lo h0 h1 lh t0 t1 lt
    refine (HD.out.1.sight HO.out hLH).mono ?_
    intro e4
    rcases hFF : F with _ | _
    · rw [hFF] at g1
      have k0 := HD.out.1.s.cell 0 rfl
      have k1 := HD.out.1.s.cell 1 rfl
      have k2 := HD.out.1.s.cell 2 rfl
      have k3 := HD.out.1.s.cell 3 rfl
      have lk := HD.out.1.s.lt
      have o0 := HD.out.1.o.cell 0 rfl
      have o1 := HD.out.1.o.cell 1 rfl
      have o2 := HD.out.1.o.cell 2 rfl
      have o3 := HD.out.1.o.cell 3 rfl
      have o4 := HD.out.1.o.cell 4 rfl
      have o5 := HD.out.1.o.cell 5 rfl
      have o6 := HD.out.1.o.cell 6 rfl
      have o7 := HD.out.1.o.cell 7 rfl
      have o8 := HD.out.1.o.cell 8 rfl
      have o9 := HD.out.1.o.cell 9 rfl
      have o10 := HD.out.1.o.cell 10 rfl
      have lo := HD.out.1.o.lt
      have h0 := HD.out.2.1.cell 0 rfl
      have h1 := HD.out.2.1.cell 1 rfl
      have lh := HD.out.2.1.lt
      have z0 := HD.out.2.2.cell 0 rfl
      have z1 := HD.out.2.2.cell 1 rfl
      have z2 := HD.out.2.2.cell 2 rfl
      have z3 := HD.out.2.2.cell 3 rfl
      have z4 := HD.out.2.2.cell 4 rfl
      have z5 := HD.out.2.2.cell 5 rfl
      have z6 := HD.out.2.2.cell 6 rfl
      have z7 := HD.out.2.2.cell 7 rfl
      have z8 := HD.out.2.2.cell 8 rfl
      have lz := HD.out.2.2.lt
      go_wp2_with fail
      ((first | with_reducible refine wp_region_ext2 (by kernel_rfl) (by kernel_rfl) ?_ | refine wp_region_ext (by kernel_rfl) (by kernel_rfl) ?_); (repeat (go_big_quiet_step ((first | (go_at_call 18; with_reducible exact Gives.inRegion ((HD.out.1.more ((Up.refl _).ext _)).field g1.out)) | (go_at_call 13; with_reducible exact Gives.inRegion (HA.out _)))))); refine wpQuiet_nil ?_; intro _ hw'; obtain ⟨_, hw''⟩ := hw'; subst hw'')
      go_wp2
      go_ret
      exact ⟨by first | rfl | exact ret_bool (by simp), (by repeat (first | with_reducible exact HD.out.1.u | with_reducible exact Up.refl _ | apply Up.ext | apply Up.alloc | apply Up.drew | (refine Up.setCell ?_ (by simp [World.setCell]; try omega) _)))⟩
    · rw [hFF] at g1
      have k0 := HD.out.1.s.cell 0 rfl
      have k1 := HD.out.1.s.cell 1 rfl
      have k2 := HD.out.1.s.cell 2 rfl
      have k3 := HD.out.1.s.cell 3 rfl
      have lk := HD.out.1.s.lt
      have o0 := HD.out.1.o.cell 0 rfl
      have o1 := HD.out.1.o.cell 1 rfl
      have o2 := HD.out.1.o.cell 2 rfl
      have o3 := HD.out.1.o.cell 3 rfl
      have o4 := HD.out.1.o.cell 4 rfl
      have o5 := HD.out.1.o.cell 5 rfl
      have o6 := HD.out.1.o.cell 6 rfl
      have o7 := HD.out.1.o.cell 7 rfl
      have o8 := HD.out.1.o.cell 8 rfl
      have o9 := HD.out.1.o.cell 9 rfl
      have o10 := HD.out.1.o.cell 10 rfl
      have lo := HD.out.1.o.lt
      have h0 := HD.out.2.1.cell 0 rfl
      have h1 := HD.out.2.1.cell 1 rfl
      have lh := HD.out.2.1.lt
      have z0 := HD.out.2.2.cell 0 rfl
      have z1 := HD.out.2.2.cell 1 rfl
      have z2 := HD.out.2.2.cell 2 rfl
      have z3 := HD.out.2.2.cell 3 rfl
      have z4 := HD.out.2.2.cell 4 rfl
      have z5 := HD.out.2.2.cell 5 rfl
      have z6 := HD.out.2.2.cell 6 rfl
      have z7 := HD.out.2.2.cell 7 rfl
      have z8 := HD.out.2.2.cell 8 rfl
      have lz := HD.out.2.2.lt
      have gA := hide (hA.out hFF M0 hm0)
      have gR0 := hR.out M0 hm0
      have gR := hide gR0
      clear gR0
      go_wp2_with fail
      ((first | with_reducible refine wp_region_ext2 (by kernel_rfl) (by kernel_rfl) ?_ | refine wp_region_ext (by kernel_rfl) (by kernel_rfl) ?_); (repeat (go_big_quiet_step ((first | (go_at_call 18; with_reducible exact Gives.inRegion ((HD.out.1.more ((Up.refl _).ext _)).field g1.out)) | (go_at_call 13; with_reducible exact Gives.inRegion (HA.out _)) | (go_at_call 20; with_reducible exact Gives.inRegion ((HD.out.1.more ((Up.refl _).ext _)).agrees gA.out)) | (go_at_call 32; with_reducible exact Gives.inRegion ((HD.out.1.more ((Up.refl _).ext _)).looks HO.out hLH HQ.out gR.out)))))); refine wpQuiet_nil ?_; intro _ hw'; obtain ⟨_, hw''⟩ := hw'; subst hw'')
      go_wp2
      go_ret
      exact ⟨by first | rfl | exact ret_bool (by simp), (by repeat (first | with_reducible exact HD.out.1.u | with_reducible exact Up.refl _ | apply Up.ext | apply Up.alloc | apply Up.drew | (refine Up.setCell ?_ (by simp [World.setCell]; try omega) _)))⟩
  subst his
  obtain ⟨c10, c11⟩ := c1 rfl
  by_cases hb : va.tmod 2 = 0
  rotate_left
  · have hbb : (va.tmod 2 == 0) = false := by simpa using hb
    have k0 := HC.out.1.s.cell 0 rfl
    have k1 := HC.out.1.s.cell 1 rfl
    have k2 := HC.out.1.s.cell 2 rfl
    have k3 := HC.out.1.s.cell 3 rfl
    have lk := HC.out.1.s.lt
    have o0 := HC.out.1.o.cell 0 rfl
    have o1 := HC.out.1.o.cell 1 rfl
    have o2 := HC.out.1.o.cell 2 rfl
    have o3 := HC.out.1.o.cell 3 rfl
    have o4 := HC.out.1.o.cell 4 rfl
    have o5 := HC.out.1.o.cell 5 rfl
    have o6 := HC.out.1.o.cell 6 rfl
    have o7 := HC.out.1.o.cell 7 rfl
    have o8 := HC.out.1.o.cell 8 rfl
    have o9 := HC.out.1.o.cell 9 rfl
    have o10 := HC.out.1.o.cell 10 rfl
    have lo := HC.out.1.o.lt
    have h0 := HC.out.2.1.cell 0 rfl
    have h1 := HC.out.2.1.cell 1 rfl
    have lh := HC.out.2.1.lt
    have t0 := HC.out.2.2.cell 0 rfl
    have t1 := HC.out.2.2.cell 1 rfl
    have lt := HC.out.2.2.lt
    have d0 : decide (M0 < 0) = false := decide_eq_false (by omega)
    have hm0 : (0 : Int) ≤ M0 := by omega
    have hLH : 0 ≤ (max 0 (M0 - oz.err)) ∧ (max 0 (M0 - oz.err)) ≤ (M0 + oz.err) ∧ (M0 + oz.err) ≤ 134217728 := by omega
    have hLK := HC.out.2.2.lt
    go_wp2_with fail
    go_at_call 31
    obtain ⟨Z, hZ⟩ : ∃ Z, Z = V2.heap.size + e3.os.size := ⟨_, rfl⟩
    rw [← hZ]
    refine forgetC (fun wr => M6 w a n c sa sn sc ca cn cc s home X Y oz G wr ∧ Box wr H #[.int .i64 (x2), .int .i64 (y2)] 30 ∧ Box wr Z #[.int .i64 (2), .int .i64 (oz.station), .int .i64 (0), .int .i64 (oz.tick), .int .i64 (0), .int .i64 (0), .int .i64 (0), .int .i64 ((max 0 (M0 - oz.err))), .int .i64 ((M0 + oz.err))] 63) ⟨HC.out.1.more (by repeat (first | with_reducible exact Up.refl _ | with_reducible apply Up.plus | apply Up.ext | apply Up.alloc | apply Up.drew | (refine Up.setCell ?_ (by simp; try omega) _))), (by repeat (first | with_reducible exact HC.out.2.1 | with_reducible apply Box.ext | with_reducible apply Box.alloc | with_reducible apply Box.drew | (with_reducible refine Box.other ?_ (by omega) _ _))), by rw [hZ]; exact Box.mk (ext_size _ _)⟩ ?_
    rintro V3 ⟨hv, bh, bz⟩
    have HD := hide (And.intro hv (And.intro bh bz))
    clear hv bh bz HC hZ hLK k0 k1 k2 k3 lk o0 o1 o2 o3 o4 o5 o6 o7 o8 o9 o10 lo h0 h1 lh t0 t1 lt
    refine (HD.out.1.sight HO.out hLH).mono ?_
    intro e4
    rcases hFF : F with _ | _
    · rw [hFF] at g1
      have k0 := HD.out.1.s.cell 0 rfl
      have k1 := HD.out.1.s.cell 1 rfl
      have k2 := HD.out.1.s.cell 2 rfl
      have k3 := HD.out.1.s.cell 3 rfl
      have lk := HD.out.1.s.lt
      have o0 := HD.out.1.o.cell 0 rfl
      have o1 := HD.out.1.o.cell 1 rfl
      have o2 := HD.out.1.o.cell 2 rfl
      have o3 := HD.out.1.o.cell 3 rfl
      have o4 := HD.out.1.o.cell 4 rfl
      have o5 := HD.out.1.o.cell 5 rfl
      have o6 := HD.out.1.o.cell 6 rfl
      have o7 := HD.out.1.o.cell 7 rfl
      have o8 := HD.out.1.o.cell 8 rfl
      have o9 := HD.out.1.o.cell 9 rfl
      have o10 := HD.out.1.o.cell 10 rfl
      have lo := HD.out.1.o.lt
      have h0 := HD.out.2.1.cell 0 rfl
      have h1 := HD.out.2.1.cell 1 rfl
      have lh := HD.out.2.1.lt
      have z0 := HD.out.2.2.cell 0 rfl
      have z1 := HD.out.2.2.cell 1 rfl
      have z2 := HD.out.2.2.cell 2 rfl
      have z3 := HD.out.2.2.cell 3 rfl
      have z4 := HD.out.2.2.cell 4 rfl
      have z5 := HD.out.2.2.cell 5 rfl
      have z6 := HD.out.2.2.cell 6 rfl
      have z7 := HD.out.2.2.cell 7 rfl
      have z8 := HD.out.2.2.cell 8 rfl
      have lz := HD.out.2.2.lt
      go_wp2_with fail
      ((first | with_reducible refine wp_region_ext2 (by kernel_rfl) (by kernel_rfl) ?_ | refine wp_region_ext (by kernel_rfl) (by kernel_rfl) ?_); (repeat (go_big_quiet_step ((first | (go_at_call 18; with_reducible exact Gives.inRegion ((HD.out.1.more ((Up.refl _).ext _)).field g1.out)) | (go_at_call 13; with_reducible exact Gives.inRegion (HA.out _)))))); refine wpQuiet_nil ?_; intro _ hw'; obtain ⟨_, hw''⟩ := hw'; subst hw'')
      go_wp2
      go_ret
      exact ⟨by first | rfl | exact ret_bool (by simp), (by repeat (first | with_reducible exact HD.out.1.u | with_reducible exact Up.refl _ | apply Up.ext | apply Up.alloc | apply Up.drew | (refine Up.setCell ?_ (by simp [World.setCell]; try omega) _)))⟩
    · rw [hFF] at g1
      have k0 := HD.out.1.s.cell 0 rfl
      have k1 := HD.out.1.s.cell 1 rfl
      have k2 := HD.out.1.s.cell 2 rfl
      have k3 := HD.out.1.s.cell 3 rfl
      have lk := HD.out.1.s.lt
      have o0 := HD.out.1.o.cell 0 rfl
      have o1 := HD.out.1.o.cell 1 rfl
      have o2 := HD.out.1.o.cell 2 rfl
      have o3 := HD.out.1.o.cell 3 rfl
      have o4 := HD.out.1.o.cell 4 rfl
      have o5 := HD.out.1.o.cell 5 rfl
      have o6 := HD.out.1.o.cell 6 rfl
      have o7 := HD.out.1.o.cell 7 rfl
      have o8 := HD.out.1.o.cell 8 rfl
      have o9 := HD.out.1.o.cell 9 rfl
      have o10 := HD.out.1.o.cell 10 rfl
      have lo := HD.out.1.o.lt
      have h0 := HD.out.2.1.cell 0 rfl
      have h1 := HD.out.2.1.cell 1 rfl
      have lh := HD.out.2.1.lt
      have z0 := HD.out.2.2.cell 0 rfl
      have z1 := HD.out.2.2.cell 1 rfl
      have z2 := HD.out.2.2.cell 2 rfl
      have z3 := HD.out.2.2.cell 3 rfl
      have z4 := HD.out.2.2.cell 4 rfl
      have z5 := HD.out.2.2.cell 5 rfl
      have z6 := HD.out.2.2.cell 6 rfl
      have z7 := HD.out.2.2.cell 7 rfl
      have z8 := HD.out.2.2.cell 8 rfl
      have lz := HD.out.2.2.lt
      have gA := hide (hA.out hFF M0 hm0)
      have gR0 := hR.out M0 hm0
      have gR := hide gR0
      clear gR0
      go_wp2_with fail
      ((first | with_reducible refine wp_region_ext2 (by kernel_rfl) (by kernel_rfl) ?_ | refine wp_region_ext (by kernel_rfl) (by kernel_rfl) ?_); (repeat (go_big_quiet_step ((first | (go_at_call 18; with_reducible exact Gives.inRegion ((HD.out.1.more ((Up.refl _).ext _)).field g1.out)) | (go_at_call 13; with_reducible exact Gives.inRegion (HA.out _)) | (go_at_call 20; with_reducible exact Gives.inRegion ((HD.out.1.more ((Up.refl _).ext _)).agrees gA.out)) | (go_at_call 32; with_reducible exact Gives.inRegion ((HD.out.1.more ((Up.refl _).ext _)).looks HO.out hLH HQ.out gR.out)))))); refine wpQuiet_nil ?_; intro _ hw'; obtain ⟨_, hw''⟩ := hw'; subst hw'')
      go_wp2
      go_ret
      exact ⟨by first | rfl | exact ret_bool (by simp), (by repeat (first | with_reducible exact HD.out.1.u | with_reducible exact Up.refl _ | apply Up.ext | apply Up.alloc | apply Up.drew | (refine Up.setCell ?_ (by simp [World.setCell]; try omega) _)))⟩
  have hbb : (va.tmod 2 == 0) = true := by simpa using hb
  by_cases hn : l1 + va.tmod 3 < 0
  · have d0 : decide (l1 + va.tmod 3 < 0) = true := decide_eq_true hn
    have k0 := HC.out.1.s.cell 0 rfl
    have k1 := HC.out.1.s.cell 1 rfl
    have k2 := HC.out.1.s.cell 2 rfl
    have k3 := HC.out.1.s.cell 3 rfl
    have lk := HC.out.1.s.lt
    have o0 := HC.out.1.o.cell 0 rfl
    have o1 := HC.out.1.o.cell 1 rfl
    have o2 := HC.out.1.o.cell 2 rfl
    have o3 := HC.out.1.o.cell 3 rfl
    have o4 := HC.out.1.o.cell 4 rfl
    have o5 := HC.out.1.o.cell 5 rfl
    have o6 := HC.out.1.o.cell 6 rfl
    have o7 := HC.out.1.o.cell 7 rfl
    have o8 := HC.out.1.o.cell 8 rfl
    have o9 := HC.out.1.o.cell 9 rfl
    have o10 := HC.out.1.o.cell 10 rfl
    have lo := HC.out.1.o.lt
    have h0 := HC.out.2.1.cell 0 rfl
    have h1 := HC.out.2.1.cell 1 rfl
    have lh := HC.out.2.1.lt
    have t0 := HC.out.2.2.cell 0 rfl
    have t1 := HC.out.2.2.cell 1 rfl
    have lt := HC.out.2.2.lt
    have hm0 : (0 : Int) ≤ 0 := by omega
    have hLH : 0 ≤ (max 0 (-oz.err)) ∧ (max 0 (-oz.err)) ≤ oz.err ∧ oz.err ≤ 134217728 := by omega
    have hLK := HC.out.2.2.lt
    go_wp2_with fail
    go_at_call 31
    obtain ⟨Z, hZ⟩ : ∃ Z, Z = V2.heap.size + e3.os.size := ⟨_, rfl⟩
    rw [← hZ]
    refine forgetC (fun wr => M6 w a n c sa sn sc ca cn cc s home X Y oz G wr ∧ Box wr H #[.int .i64 (x2), .int .i64 (y2)] 30 ∧ Box wr Z #[.int .i64 (2), .int .i64 (oz.station), .int .i64 (0), .int .i64 (oz.tick), .int .i64 (0), .int .i64 (0), .int .i64 (0), .int .i64 ((max 0 (-oz.err))), .int .i64 (oz.err)] 63) ⟨HC.out.1.more (by repeat (first | with_reducible exact Up.refl _ | with_reducible apply Up.plus | apply Up.ext | apply Up.alloc | apply Up.drew | (refine Up.setCell ?_ (by simp; try omega) _))), (by repeat (first | with_reducible exact HC.out.2.1 | with_reducible apply Box.ext | with_reducible apply Box.alloc | with_reducible apply Box.drew | (with_reducible refine Box.other ?_ (by omega) _ _))), by rw [hZ]; exact Box.mk (ext_size _ _)⟩ ?_
    rintro V3 ⟨hv, bh, bz⟩
    have HD := hide (And.intro hv (And.intro bh bz))
    clear hv bh bz HC hZ hLK k0 k1 k2 k3 lk o0 o1 o2 o3 o4 o5 o6 o7 o8 o9 o10 lo h0 h1 lh t0 t1 lt
    refine (HD.out.1.sight HO.out hLH).mono ?_
    intro e4
    rcases hFF : F with _ | _
    · rw [hFF] at g1
      have k0 := HD.out.1.s.cell 0 rfl
      have k1 := HD.out.1.s.cell 1 rfl
      have k2 := HD.out.1.s.cell 2 rfl
      have k3 := HD.out.1.s.cell 3 rfl
      have lk := HD.out.1.s.lt
      have o0 := HD.out.1.o.cell 0 rfl
      have o1 := HD.out.1.o.cell 1 rfl
      have o2 := HD.out.1.o.cell 2 rfl
      have o3 := HD.out.1.o.cell 3 rfl
      have o4 := HD.out.1.o.cell 4 rfl
      have o5 := HD.out.1.o.cell 5 rfl
      have o6 := HD.out.1.o.cell 6 rfl
      have o7 := HD.out.1.o.cell 7 rfl
      have o8 := HD.out.1.o.cell 8 rfl
      have o9 := HD.out.1.o.cell 9 rfl
      have o10 := HD.out.1.o.cell 10 rfl
      have lo := HD.out.1.o.lt
      have h0 := HD.out.2.1.cell 0 rfl
      have h1 := HD.out.2.1.cell 1 rfl
      have lh := HD.out.2.1.lt
      have z0 := HD.out.2.2.cell 0 rfl
      have z1 := HD.out.2.2.cell 1 rfl
      have z2 := HD.out.2.2.cell 2 rfl
      have z3 := HD.out.2.2.cell 3 rfl
      have z4 := HD.out.2.2.cell 4 rfl
      have z5 := HD.out.2.2.cell 5 rfl
      have z6 := HD.out.2.2.cell 6 rfl
      have z7 := HD.out.2.2.cell 7 rfl
      have z8 := HD.out.2.2.cell 8 rfl
      have lz := HD.out.2.2.lt
      go_wp2_with fail
      ((first | with_reducible refine wp_region_ext2 (by kernel_rfl) (by kernel_rfl) ?_ | refine wp_region_ext (by kernel_rfl) (by kernel_rfl) ?_); (repeat (go_big_quiet_step ((first | (go_at_call 18; with_reducible exact Gives.inRegion ((HD.out.1.more ((Up.refl _).ext _)).field g1.out)) | (go_at_call 13; with_reducible exact Gives.inRegion (HA.out _)))))); refine wpQuiet_nil ?_; intro _ hw'; obtain ⟨_, hw''⟩ := hw'; subst hw'')
      go_wp2
      go_ret
      exact ⟨by first | rfl | exact ret_bool (by simp), (by repeat (first | with_reducible exact HD.out.1.u | with_reducible exact Up.refl _ | apply Up.ext | apply Up.alloc | apply Up.drew | (refine Up.setCell ?_ (by simp [World.setCell]; try omega) _)))⟩
    · rw [hFF] at g1
      have k0 := HD.out.1.s.cell 0 rfl
      have k1 := HD.out.1.s.cell 1 rfl
      have k2 := HD.out.1.s.cell 2 rfl
      have k3 := HD.out.1.s.cell 3 rfl
      have lk := HD.out.1.s.lt
      have o0 := HD.out.1.o.cell 0 rfl
      have o1 := HD.out.1.o.cell 1 rfl
      have o2 := HD.out.1.o.cell 2 rfl
      have o3 := HD.out.1.o.cell 3 rfl
      have o4 := HD.out.1.o.cell 4 rfl
      have o5 := HD.out.1.o.cell 5 rfl
      have o6 := HD.out.1.o.cell 6 rfl
      have o7 := HD.out.1.o.cell 7 rfl
      have o8 := HD.out.1.o.cell 8 rfl
      have o9 := HD.out.1.o.cell 9 rfl
      have o10 := HD.out.1.o.cell 10 rfl
      have lo := HD.out.1.o.lt
      have h0 := HD.out.2.1.cell 0 rfl
      have h1 := HD.out.2.1.cell 1 rfl
      have lh := HD.out.2.1.lt
      have z0 := HD.out.2.2.cell 0 rfl
      have z1 := HD.out.2.2.cell 1 rfl
      have z2 := HD.out.2.2.cell 2 rfl
      have z3 := HD.out.2.2.cell 3 rfl
      have z4 := HD.out.2.2.cell 4 rfl
      have z5 := HD.out.2.2.cell 5 rfl
      have z6 := HD.out.2.2.cell 6 rfl
      have z7 := HD.out.2.2.cell 7 rfl
      have z8 := HD.out.2.2.cell 8 rfl
      have lz := HD.out.2.2.lt
      have gA := hide (hA.out hFF 0 hm0)
      have gR0 := hR.out 0 hm0
      rw [Int.zero_sub, Int.zero_add] at gR0
      have gR := hide gR0
      clear gR0
      go_wp2_with fail
      ((first | with_reducible refine wp_region_ext2 (by kernel_rfl) (by kernel_rfl) ?_ | refine wp_region_ext (by kernel_rfl) (by kernel_rfl) ?_); (repeat (go_big_quiet_step ((first | (go_at_call 18; with_reducible exact Gives.inRegion ((HD.out.1.more ((Up.refl _).ext _)).field g1.out)) | (go_at_call 13; with_reducible exact Gives.inRegion (HA.out _)) | (go_at_call 20; with_reducible exact Gives.inRegion ((HD.out.1.more ((Up.refl _).ext _)).agrees gA.out)) | (go_at_call 32; with_reducible exact Gives.inRegion ((HD.out.1.more ((Up.refl _).ext _)).looks HO.out hLH HQ.out gR.out)))))); refine wpQuiet_nil ?_; intro _ hw'; obtain ⟨_, hw''⟩ := hw'; subst hw'')
      go_wp2
      go_ret
      exact ⟨by first | rfl | exact ret_bool (by simp), (by repeat (first | with_reducible exact HD.out.1.u | with_reducible exact Up.refl _ | apply Up.ext | apply Up.alloc | apply Up.drew | (refine Up.setCell ?_ (by simp [World.setCell]; try omega) _)))⟩
  have d0 : decide (l1 + va.tmod 3 < 0) = false := decide_eq_false hn
  have k0 := HC.out.1.s.cell 0 rfl
  have k1 := HC.out.1.s.cell 1 rfl
  have k2 := HC.out.1.s.cell 2 rfl
  have k3 := HC.out.1.s.cell 3 rfl
  have lk := HC.out.1.s.lt
  have o0 := HC.out.1.o.cell 0 rfl
  have o1 := HC.out.1.o.cell 1 rfl
  have o2 := HC.out.1.o.cell 2 rfl
  have o3 := HC.out.1.o.cell 3 rfl
  have o4 := HC.out.1.o.cell 4 rfl
  have o5 := HC.out.1.o.cell 5 rfl
  have o6 := HC.out.1.o.cell 6 rfl
  have o7 := HC.out.1.o.cell 7 rfl
  have o8 := HC.out.1.o.cell 8 rfl
  have o9 := HC.out.1.o.cell 9 rfl
  have o10 := HC.out.1.o.cell 10 rfl
  have lo := HC.out.1.o.lt
  have h0 := HC.out.2.1.cell 0 rfl
  have h1 := HC.out.2.1.cell 1 rfl
  have lh := HC.out.2.1.lt
  have t0 := HC.out.2.2.cell 0 rfl
  have t1 := HC.out.2.2.cell 1 rfl
  have lt := HC.out.2.2.lt
  have hm0 : (0 : Int) ≤ (l1 + va.tmod 3) := by omega
  have hLH : 0 ≤ (max 0 ((l1 + va.tmod 3) - oz.err)) ∧ (max 0 ((l1 + va.tmod 3) - oz.err)) ≤ ((l1 + va.tmod 3) + oz.err) ∧ ((l1 + va.tmod 3) + oz.err) ≤ 134217728 := by omega
  have hLK := HC.out.2.2.lt
  go_wp2_with fail
  go_at_call 31
  obtain ⟨Z, hZ⟩ : ∃ Z, Z = V2.heap.size + e3.os.size := ⟨_, rfl⟩
  rw [← hZ]
  refine forgetC (fun wr => M6 w a n c sa sn sc ca cn cc s home X Y oz G wr ∧ Box wr H #[.int .i64 (x2), .int .i64 (y2)] 30 ∧ Box wr Z #[.int .i64 (2), .int .i64 (oz.station), .int .i64 (0), .int .i64 (oz.tick), .int .i64 (0), .int .i64 (0), .int .i64 (0), .int .i64 ((max 0 ((l1 + va.tmod 3) - oz.err))), .int .i64 (((l1 + va.tmod 3) + oz.err))] 63) ⟨HC.out.1.more (by repeat (first | with_reducible exact Up.refl _ | with_reducible apply Up.plus | apply Up.ext | apply Up.alloc | apply Up.drew | (refine Up.setCell ?_ (by simp; try omega) _))), (by repeat (first | with_reducible exact HC.out.2.1 | with_reducible apply Box.ext | with_reducible apply Box.alloc | with_reducible apply Box.drew | (with_reducible refine Box.other ?_ (by omega) _ _))), by rw [hZ]; exact Box.mk (ext_size _ _)⟩ ?_
  rintro V3 ⟨hv, bh, bz⟩
  have HD := hide (And.intro hv (And.intro bh bz))
  clear hv bh bz HC hZ hLK k0 k1 k2 k3 lk o0 o1 o2 o3 o4 o5 o6 o7 o8 o9 o10 lo h0 h1 lh t0 t1 lt
  refine (HD.out.1.sight HO.out hLH).mono ?_
  intro e4
  rcases hFF : F with _ | _
  · rw [hFF] at g1
    have k0 := HD.out.1.s.cell 0 rfl
    have k1 := HD.out.1.s.cell 1 rfl
    have k2 := HD.out.1.s.cell 2 rfl
    have k3 := HD.out.1.s.cell 3 rfl
    have lk := HD.out.1.s.lt
    have o0 := HD.out.1.o.cell 0 rfl
    have o1 := HD.out.1.o.cell 1 rfl
    have o2 := HD.out.1.o.cell 2 rfl
    have o3 := HD.out.1.o.cell 3 rfl
    have o4 := HD.out.1.o.cell 4 rfl
    have o5 := HD.out.1.o.cell 5 rfl
    have o6 := HD.out.1.o.cell 6 rfl
    have o7 := HD.out.1.o.cell 7 rfl
    have o8 := HD.out.1.o.cell 8 rfl
    have o9 := HD.out.1.o.cell 9 rfl
    have o10 := HD.out.1.o.cell 10 rfl
    have lo := HD.out.1.o.lt
    have h0 := HD.out.2.1.cell 0 rfl
    have h1 := HD.out.2.1.cell 1 rfl
    have lh := HD.out.2.1.lt
    have z0 := HD.out.2.2.cell 0 rfl
    have z1 := HD.out.2.2.cell 1 rfl
    have z2 := HD.out.2.2.cell 2 rfl
    have z3 := HD.out.2.2.cell 3 rfl
    have z4 := HD.out.2.2.cell 4 rfl
    have z5 := HD.out.2.2.cell 5 rfl
    have z6 := HD.out.2.2.cell 6 rfl
    have z7 := HD.out.2.2.cell 7 rfl
    have z8 := HD.out.2.2.cell 8 rfl
    have lz := HD.out.2.2.lt
    go_wp2_with fail
    ((first | with_reducible refine wp_region_ext2 (by kernel_rfl) (by kernel_rfl) ?_ | refine wp_region_ext (by kernel_rfl) (by kernel_rfl) ?_); (repeat (go_big_quiet_step ((first | (go_at_call 18; with_reducible exact Gives.inRegion ((HD.out.1.more ((Up.refl _).ext _)).field g1.out)) | (go_at_call 13; with_reducible exact Gives.inRegion (HA.out _)))))); refine wpQuiet_nil ?_; intro _ hw'; obtain ⟨_, hw''⟩ := hw'; subst hw'')
    go_wp2
    go_ret
    exact ⟨by first | rfl | exact ret_bool (by simp), (by repeat (first | with_reducible exact HD.out.1.u | with_reducible exact Up.refl _ | apply Up.ext | apply Up.alloc | apply Up.drew | (refine Up.setCell ?_ (by simp [World.setCell]; try omega) _)))⟩
  · rw [hFF] at g1
    have k0 := HD.out.1.s.cell 0 rfl
    have k1 := HD.out.1.s.cell 1 rfl
    have k2 := HD.out.1.s.cell 2 rfl
    have k3 := HD.out.1.s.cell 3 rfl
    have lk := HD.out.1.s.lt
    have o0 := HD.out.1.o.cell 0 rfl
    have o1 := HD.out.1.o.cell 1 rfl
    have o2 := HD.out.1.o.cell 2 rfl
    have o3 := HD.out.1.o.cell 3 rfl
    have o4 := HD.out.1.o.cell 4 rfl
    have o5 := HD.out.1.o.cell 5 rfl
    have o6 := HD.out.1.o.cell 6 rfl
    have o7 := HD.out.1.o.cell 7 rfl
    have o8 := HD.out.1.o.cell 8 rfl
    have o9 := HD.out.1.o.cell 9 rfl
    have o10 := HD.out.1.o.cell 10 rfl
    have lo := HD.out.1.o.lt
    have h0 := HD.out.2.1.cell 0 rfl
    have h1 := HD.out.2.1.cell 1 rfl
    have lh := HD.out.2.1.lt
    have z0 := HD.out.2.2.cell 0 rfl
    have z1 := HD.out.2.2.cell 1 rfl
    have z2 := HD.out.2.2.cell 2 rfl
    have z3 := HD.out.2.2.cell 3 rfl
    have z4 := HD.out.2.2.cell 4 rfl
    have z5 := HD.out.2.2.cell 5 rfl
    have z6 := HD.out.2.2.cell 6 rfl
    have z7 := HD.out.2.2.cell 7 rfl
    have z8 := HD.out.2.2.cell 8 rfl
    have lz := HD.out.2.2.lt
    have gA := hide (hA.out hFF (l1 + va.tmod 3) hm0)
    have gR0 := hR.out (l1 + va.tmod 3) hm0
    have gR := hide gR0
    clear gR0
    go_wp2_with fail
    ((first | with_reducible refine wp_region_ext2 (by kernel_rfl) (by kernel_rfl) ?_ | refine wp_region_ext (by kernel_rfl) (by kernel_rfl) ?_); (repeat (go_big_quiet_step ((first | (go_at_call 18; with_reducible exact Gives.inRegion ((HD.out.1.more ((Up.refl _).ext _)).field g1.out)) | (go_at_call 13; with_reducible exact Gives.inRegion (HA.out _)) | (go_at_call 20; with_reducible exact Gives.inRegion ((HD.out.1.more ((Up.refl _).ext _)).agrees gA.out)) | (go_at_call 32; with_reducible exact Gives.inRegion ((HD.out.1.more ((Up.refl _).ext _)).looks HO.out hLH HQ.out gR.out)))))); refine wpQuiet_nil ?_; intro _ hw'; obtain ⟨_, hw''⟩ := hw'; subst hw'')
    go_wp2
    go_ret
    exact ⟨by first | rfl | exact ret_bool (by simp), (by repeat (first | with_reducible exact HD.out.1.u | with_reducible exact Up.refl _ | apply Up.ext | apply Up.alloc | apply Up.drew | (refine Up.setCell ?_ (by simp [World.setCell]; try omega) _)))⟩

set_option maxRecDepth 100000 in
theorem wranges_lifted (os : Os) (started : os.Started) (H : Type) (enc : TypeId × Value → H) :
    ReturnsInHanded {} Tryz.checked os 5 .any (Rows.watchRangesSpec.pre6 enc Tryz.prog Tryz.f5 Rows.watchRangesRow.domain false) (Rows.watchRangesSpec.post enc Tryz.prog Tryz.f5 false true false false) := by
  refine returnsInHanded_of_change (C := Tryz.checked) knob_own started (by kernel_rfl) Tryz.func5
    (ChangeSpec.witness6 (enc := enc) (C := Tryz.checked) false ⟨#[], #[.slice none 0 0, .int .i64 0, .int .i64 0, .int .i64 0], []⟩ 8 (by kernel_rfl) (by kernel_rfl) (by kernel_rfl) (by kernel_rfl)) ?_
  intro W base args ds gs before hval0 hW _ _
  have hval : ∀ (j : Nat) t v, Tryz.f5.params[j]? = some t → args[j]? = some v → Value.okWide Tryz.prog W .any base t v := hval0
  have hW' := hW
  obtain ⟨p, q, hA0, hV, rfl, _, _⟩ := hW
  have hA : DataW.TrodAll enc Tryz.prog W 0 (fun _ => true) true Tryz.f5.params.toList args.toList ds p := hA0
  rw [Tryz.params5] at hA hval
  obtain ⟨v0, vs0, d0, ds0, p0, q0, hargs, rfl, rfl, h0, r0⟩ := trodAll_cons hA
  obtain ⟨v1, vs1, d1, ds1, p1, q1, rfl, rfl, rfl, h1, r1⟩ := trodAll_cons r0
  obtain ⟨v2, vs2, d2, ds2, p2, q2, rfl, rfl, rfl, h2, r2⟩ := trodAll_cons r1
  obtain ⟨v3, vs3, d3, ds3, p3, q3, rfl, rfl, rfl, h3, r3⟩ := trodAll_cons r2
  obtain ⟨rfl, rfl, rfl⟩ := trodAll_nil r3
  obtain rfl : args = #[v0, v1, v2, v3] := by cases args; simp_all
  obtain ⟨rfl, rfl⟩ := trodVars_none hV
  have hlt0 : ∀ x ∈ p0, x.block < W.heap.size := fun x hx => hW'.lt x (by simp [hx])
  obtain ⟨hn0, shut0⟩ := open_nums (hval 0 56 v0 rfl rfl) h0 hlt0
  obtain ⟨a1, rfl, rfl, rfl, w1⟩ := open_int Tryz.underlying2 (hval 1 2 v1 rfl rfl) h1
  obtain ⟨a2, rfl, rfl, rfl, w2⟩ := open_int Tryz.underlying2 (hval 2 2 v2 rfl rfl) h2
  obtain ⟨a3, rfl, rfl, rfl, w3⟩ := open_int Tryz.underlying2 (hval 3 2 v3 rfl rfl) h3
  clear hA0 hval0
  simp only [List.append_nil] at hW'
  refine (wranges_law v0 hn0 a1 a2 a3 (i64_bds w1) (i64_bds w2) (i64_bds w3) ).mono fun px => ?_
  exact ⟨_, rfl, post_of_below (pa := (p0 ++ (([] : List MemPlace) ++ (([] : List MemPlace) ++ (([] : List MemPlace) ++ []))))) (pv := []) hW' (fun _ _ _ => (trodAll_cons_mk (shut_bool Tryz.underlying4 _) trodAll_mk0)) (fun sp hsp => (trodAll_cons_mk (shut0 _ sp (Up.below ⟨px, rfl⟩) (fun x hx => hsp x (by simp [hx]))) (trodAll_cons_mk (shut_int Tryz.underlying2 w1) (trodAll_cons_mk (shut_int Tryz.underlying2 w2) (trodAll_cons_mk (shut_int Tryz.underlying2 w3) trodAll_mk0))))) (fun _ _ => rfl) (by simp)
    (Up.below ⟨px, rfl⟩) (ok_one (by kernel_rfl) rfl (okWide_bool_mk Tryz.underlying4 _))⟩

theorem wranges_holds : Rows.WatchRangesSaid :=
  OpenClaim.holds_of_wide 5 Tryz.f5 rfl rfl rfl rfl rfl rfl rfl ⟨rfl, rfl, rfl, rfl, rfl⟩ rfl rfl rfl rfl rfl (by kernel_rfl) Tryz.func5 (by kernel_rfl)
    (of_decide_eq_true (by kernel_rfl)) (by unfold Func.isWrapper; rw [if_neg (by decide +kernel)]; exact ⟨rfl, rfl⟩)
    (fun os started H enc _ => wranges_lifted os started H enc)
#print axioms wranges_holds
end Go.Proofs.YtnaiaodnnmhdkaaGreat
