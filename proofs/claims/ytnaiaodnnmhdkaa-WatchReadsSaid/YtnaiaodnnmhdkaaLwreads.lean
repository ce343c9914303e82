/- WatchReads returns true for every input: a place in the field agrees with just the values that can be read, one that is not with nothing seen, and all with a reading that failed. No conditions. -/
import Derived.Test.YtnaiaodnnmhdkaaW6l
import Derived.Test.YtnaiaodnnmhdkaaStore
import Derived.Test.YtnaiaodnnmhdkaaFloat
import Derived.JoinedOf
import Derived.JoinedAt
import Derived.ChangeSame
import Derived.OpenShut
namespace Go.Proofs.Ytnaiaodnnmhdkaa
set_option linter.unusedVariables false
set_option linter.unusedSimpArgs false
open Go.RowKit Go.ChangeShapes Go.WideShapes Go.ChangeAt Go.Joins Go.Shelf

set_option maxRecDepth 100000 in
set_option maxHeartbeats 100000000 in
theorem wreads_law (v0 : Value) {w : World} (hN : Nums w v0) (dx dy va : Int) (bdx : -9223372036854775808 ≤ dx ∧ dx ≤ 9223372036854775807) (bdy : -9223372036854775808 ≤ dy ∧ dy ≤ 9223372036854775807) (bva : -9223372036854775808 ≤ va ∧ va ≤ 9223372036854775807) :
    Gives Try.prog 4 #[v0, .int .i64 dx, .int .i64 dy, .int .i64 va] w (.bool true) := by
  have HM := hide (made6_any hN)
  have HA := hide (fun w => awake6_any w)
  clear hN
  (unfold Gives; go_enter Try.func4, Try.ntmps4)
  go_wp2_with fail
  go_at_call 6
  refine HM.out.mono ?_
  rintro _ W ⟨r, a, n, c, sa, sn, sc, ca, cn, cc, s, X, Y, o, p, rfl, hL, hXY, ho, hW⟩
  have hu : Up w W := ⟨p, hW⟩
  clear hW HM
  obtain ⟨home, hhome⟩ : ∃ h, s.home = h := ⟨_, rfl⟩
  rw [hhome]
  go_wp2_with fail
  go_at_call 8
  obtain ⟨G, hG⟩ : ∃ G, W.heap.size = G := ⟨_, rfl⟩
  rw [hG]
  refine forgetC (M6 w a n c sa sn sc ca cn cc s home X Y o G) ⟨(by repeat (first | with_reducible exact hu | with_reducible exact Up.refl _ | apply Up.ext | apply Up.alloc | apply Up.drew | (refine Up.setCell ?_ (by simp [World.setCell]; try omega) _))), hL.up (by repeat (first | with_reducible exact Up.refl _ | with_reducible apply Up.plus | apply Up.ext | apply Up.alloc | apply Up.drew | (refine Up.setCell ?_ (by simp; try omega) _))), hhome, by rw [← hG]; exact (by repeat (first | exact Box.mk rfl | (refine Box.mk ?_; simp; done) | apply Box.ext | apply Box.drew | apply Box.alloc | apply Box.two1 | (refine Box.other ?_ (by omega) _ _))), by rw [← hG]; exact (by repeat (first | exact Box.mk rfl | (refine Box.mk ?_; simp; done) | apply Box.ext | apply Box.drew | apply Box.alloc | apply Box.two1 | (refine Box.other ?_ (by omega) _ _))), by rw [← hG]; exact (by repeat (first | exact Box.mk rfl | (refine Box.mk ?_; simp; done) | apply Box.ext | apply Box.drew | apply Box.alloc | apply Box.two1 | (refine Box.other ?_ (by omega) _ _)))⟩ ?_
  intro V hV
  have HV := hide hV
  have KN := hide (fun U => near6_any X Y dx dy (by omega) (by omega) bdx bdy U)
  obtain ⟨x2, hx2, x20, x21⟩ : ∃ x, X + dx % 601 - 300 = x ∧ -4300 ≤ x ∧ x ≤ 4300 := ⟨_, rfl, by omega, by omega⟩
  obtain ⟨y2, hy2, y20, y21⟩ : ∃ x, Y + dy % 601 - 300 = x ∧ -4300 ≤ x ∧ x ≤ 4300 := ⟨_, rfl, by omega, by omega⟩
  rw [hx2, hy2] at KN
  obtain ⟨F, l1, l2, is, g1, g2, c1, ⟨⟨l10, l11⟩, l20, l21⟩, A2, A1, A0⟩ := reads_facts (q := (x2, y2)) ho (by unfold PBd; dsimp only; omega)
  replace g1 := hide g1
  replace g2 := hide g2
  replace A2 := hide A2
  replace A1 := hide A1
  replace A0 := hide (A0 0)
  have hall : (F = false ∧ is = false) ∨ (F = true ∧ is = false) ∨ (F = true ∧ is = true) := by
    revert c1
    cases F <;> cases is <;> simp
  clear c1 hu hL hhome hG hV ho hx2 hy2 bdx bdy hXY x20 x21 y20 y21
  refine (KN.out _).mono ?_
  intro e1
  have k0 := HV.out.s.cell 0 rfl
  have k1 := HV.out.s.cell 1 rfl
  have k2 := HV.out.s.cell 2 rfl
  have k3 := HV.out.s.cell 3 rfl
  have lk := HV.out.s.lt
  have o0 := HV.out.o.cell 0 rfl
  have o1 := HV.out.o.cell 1 rfl
  have o2 := HV.out.o.cell 2 rfl
  have o3 := HV.out.o.cell 3 rfl
  have o4 := HV.out.o.cell 4 rfl
  have o5 := HV.out.o.cell 5 rfl
  have o6 := HV.out.o.cell 6 rfl
  have o7 := HV.out.o.cell 7 rfl
  have o8 := HV.out.o.cell 8 rfl
  have o9 := HV.out.o.cell 9 rfl
  have o10 := HV.out.o.cell 10 rfl
  have lo := HV.out.o.lt
  go_wp2_with fail
  go_at_call 12
  obtain ⟨H, hH⟩ : ∃ H, H = V.heap.size + e1.os.size := ⟨_, rfl⟩
  rw [← hH]
  refine forgetC (fun U => Up V U ∧ Box U H #[.int .i64 (x2), .int .i64 (y2)] 32) ⟨(by repeat (first | with_reducible exact Up.refl _ | with_reducible apply Up.plus | apply Up.ext | apply Up.alloc | apply Up.drew | (refine Up.setCell ?_ (by simp; try omega) _))), by rw [hH]; exact (by repeat (first | exact Box.mk rfl | (refine Box.mk ?_; simp; done) | apply Box.ext | apply Box.drew | apply Box.alloc | apply Box.two1 | (refine Box.other ?_ (by omega) _ _)))⟩ ?_
  rintro U ⟨hu, bh⟩
  have HB := hide (And.intro (HV.out.more hu) bh)
  clear k0 k1 k2 k3 lk o0 o1 o2 o3 o4 o5 o6 o7 o8 o9 o10 lo
  clear hu bh HV KN hH
  rcases hall with ⟨rfl, rfl⟩ | ⟨rfl, rfl⟩ | ⟨rfl, rfl⟩
  · skip
    refine (HB.out.1.reads g2.out).mono ?_
    intro e2
    have k0 := HB.out.1.s.cell 0 rfl
    have k1 := HB.out.1.s.cell 1 rfl
    have k2 := HB.out.1.s.cell 2 rfl
    have k3 := HB.out.1.s.cell 3 rfl
    have lk := HB.out.1.s.lt
    have o0 := HB.out.1.o.cell 0 rfl
    have o1 := HB.out.1.o.cell 1 rfl
    have o2 := HB.out.1.o.cell 2 rfl
    have o3 := HB.out.1.o.cell 3 rfl
    have o4 := HB.out.1.o.cell 4 rfl
    have o5 := HB.out.1.o.cell 5 rfl
    have o6 := HB.out.1.o.cell 6 rfl
    have o7 := HB.out.1.o.cell 7 rfl
    have o8 := HB.out.1.o.cell 8 rfl
    have o9 := HB.out.1.o.cell 9 rfl
    have o10 := HB.out.1.o.cell 10 rfl
    have lo := HB.out.1.o.lt
    have h0 := HB.out.2.cell 0 rfl
    have h1 := HB.out.2.cell 1 rfl
    have lh := HB.out.2.lt
    go_wp2_with fail
    go_at_call 11
    refine ((HB.out.1.more (by repeat (first | with_reducible exact Up.refl _ | with_reducible apply Up.plus | apply Up.ext | apply Up.alloc | apply Up.drew | (refine Up.setCell ?_ (by simp; try omega) _)))).field g1.out).mono ?_
    intro e3
    go_wp2_with fail
    obtain ⟨T, hT⟩ : ∃ T, T = U.heap.size + e2.os.size := ⟨_, rfl⟩
    rw [← hT]
    obtain ⟨VV, hVV⟩ : ∃ VV, VV = T + 1 + e3.os.size := ⟨_, rfl⟩
    rw [← hVV]
    go_loopw [18] (fun s18 wr => ∃ k : Nat, s18 = .int .i64 k ∧ k ≤ 5 ∧ Hid (M6 w a n c sa sn sc ca cn cc s home X Y o G wr ∧ Box wr H #[.int .i64 (x2), .int .i64 (y2)] 32 ∧ Box wr T #[.int .i64 (l1), .int .i64 (l2)] 38 ∧ Box wr VV #[.int .i64 (va), .int .i64 (l1), .int .i64 (l2), .int .i64 ((l1 - 1)), .int .i64 ((l2 + 1))] 2)) (fun s18 _ => 5 - (intOf s18).toNat)
    case atStart => exact ⟨0, rfl, by omega, hide ⟨HB.out.1.more (by repeat (first | with_reducible exact Up.refl _ | with_reducible apply Up.plus | apply Up.ext | apply Up.alloc | apply Up.drew | (refine Up.setCell ?_ (by simp; try omega) _))), HB.out.2.up (by repeat (first | with_reducible exact Up.refl _ | with_reducible apply Up.plus | apply Up.ext | apply Up.alloc | apply Up.drew | (refine Up.setCell ?_ (by simp; try omega) _))), by rw [hT]; exact (by repeat (first | exact Box.mk rfl | (refine Box.mk ?_; simp; done) | apply Box.ext | apply Box.drew | apply Box.alloc | apply Box.two1 | (refine Box.other ?_ (by omega) _ _))), by rw [hVV, hT]; exact (by repeat (first | exact Box.mk rfl | (refine Box.mk ?_; simp; done) | apply Box.ext | apply Box.drew | apply Box.alloc | apply Box.two1 | (refine Box.other ?_ (by omega) _ _)))⟩⟩
    case round =>
      obtain ⟨k, rfl, hk5, HI⟩ := hrel
      clear hVV hT
      clear k0 k1 k2 k3 lk o0 o1 o2 o3 o4 o5 o6 o7 o8 o9 o10 lo h0 h1 lh
      have k0 := HI.out.1.s.cell 0 rfl
      have k1 := HI.out.1.s.cell 1 rfl
      have k2 := HI.out.1.s.cell 2 rfl
      have k3 := HI.out.1.s.cell 3 rfl
      have lk := HI.out.1.s.lt
      have o0 := HI.out.1.o.cell 0 rfl
      have o1 := HI.out.1.o.cell 1 rfl
      have o2 := HI.out.1.o.cell 2 rfl
      have o3 := HI.out.1.o.cell 3 rfl
      have o4 := HI.out.1.o.cell 4 rfl
      have o5 := HI.out.1.o.cell 5 rfl
      have o6 := HI.out.1.o.cell 6 rfl
      have o7 := HI.out.1.o.cell 7 rfl
      have o8 := HI.out.1.o.cell 8 rfl
      have o9 := HI.out.1.o.cell 9 rfl
      have o10 := HI.out.1.o.cell 10 rfl
      have lo := HI.out.1.o.lt
      have h0 := HI.out.2.1.cell 0 rfl
      have h1 := HI.out.2.1.cell 1 rfl
      have lh := HI.out.2.1.lt
      have t0 := HI.out.2.2.1.cell 0 rfl
      have t1 := HI.out.2.2.1.cell 1 rfl
      have lt := HI.out.2.2.1.lt
      have lv := HI.out.2.2.2.lt
      by_cases hk : k < 5
      · have hkb : decide ((k : Int) < 5) = true := by simp; omega
        have hkk : decide (k < 5) = true := by simp; omega
        obtain ⟨v, hv⟩ : ∃ v, (#[.int .i64 (va), .int .i64 (l1), .int .i64 (l2), .int .i64 ((l1 - 1)), .int .i64 ((l2 + 1))] : Array Value)[k]? = some (.int .i64 v) := by
          match k, hk with
          | 0, _ => exact ⟨_, rfl⟩
          | 1, _ => exact ⟨_, rfl⟩
          | 2, _ => exact ⟨_, rfl⟩
          | 3, _ => exact ⟨_, rfl⟩
          | 4, _ => exact ⟨_, rfl⟩
        have cv := HI.out.2.2.2.cell k hv
        have cv2 : wr.cell? ⟨VV, k * 1, none⟩ = some (.int .i64 v) := by rw [Nat.mul_one]; exact cv
        have cv3 : wr.cell? ⟨VV, 0 + k, none⟩ = some (.int .i64 v) := by rw [Nat.zero_add]; exact cv
        have cv4 : wr.cell? ⟨VV, 0 + k * 1, none⟩ = some (.int .i64 v) := by rw [Nat.zero_add, Nat.mul_one]; exact cv
        clear hv
        have gA : agreesV s o 2 v (x2, y2) = false := by rw [A2.out v]; rfl
        have gB : agreesV s o 1 v (x2, y2) = true := A1.out v
        replace gA := hide gA
        replace gB := hide gB
        go_wp2_with fail
        ((first | with_reducible refine wp_region_ext2 (by kernel_rfl) (by kernel_rfl) ?_ | refine wp_region_ext (by kernel_rfl) (by kernel_rfl) ?_); (repeat (go_big_quiet_step (fail))); refine wpQuiet_nil ?_; intro _ hw'; obtain ⟨_, hw''⟩ := hw'; subst hw'')
        go_wp2_with fail
        ((first | with_reducible refine wp_region_ext2 (by kernel_rfl) (by kernel_rfl) ?_ | refine wp_region_ext (by kernel_rfl) (by kernel_rfl) ?_); (repeat (go_big_quiet_step ((first | (go_at_call 14; with_reducible exact Gives.inRegion (((HI.out.1.more ((Up.refl _).ext _)).agrees gA.out))) | (go_at_call 14; with_reducible exact Gives.inRegion (((HI.out.1.more ((Up.refl _).ext _)).agrees gB.out))))))); refine wpQuiet_nil ?_; intro _ hw'; obtain ⟨_, hw''⟩ := hw'; subst hw'')
        go_wp2_with fail
        go_roundw
        case rel => exact ⟨k + 1, by go_num, by omega, hide ⟨HI.out.1.more (by repeat (first | with_reducible exact Up.refl _ | with_reducible apply Up.plus | apply Up.ext | apply Up.alloc | apply Up.drew | (refine Up.setCell ?_ (by simp; try omega) _))), HI.out.2.1.up (by repeat (first | with_reducible exact Up.refl _ | with_reducible apply Up.plus | apply Up.ext | apply Up.alloc | apply Up.drew | (refine Up.setCell ?_ (by simp; try omega) _))), HI.out.2.2.1.up (by repeat (first | with_reducible exact Up.refl _ | with_reducible apply Up.plus | apply Up.ext | apply Up.alloc | apply Up.drew | (refine Up.setCell ?_ (by simp; try omega) _))), HI.out.2.2.2.up (by repeat (first | with_reducible exact Up.refl _ | with_reducible apply Up.plus | apply Up.ext | apply Up.alloc | apply Up.drew | (refine Up.setCell ?_ (by simp; try omega) _)))⟩⟩
        case measure => simp [intOf]; omega
      · obtain rfl : k = 5 := by omega
        go_wp2_with fail
        go_at_call 14
        refine ((HI.out.1.more (by repeat (first | with_reducible exact Up.refl _ | with_reducible apply Up.plus | apply Up.ext | apply Up.alloc | apply Up.drew | (refine Up.setCell ?_ (by simp; try omega) _)))).agrees A0.out).mono ?_
        intro e4
        go_wp2_with fail
        go_at_call 13
        refine (HA.out _).mono ?_
        intro e5
        go_wp2_with fail
        go_ret
        exact ⟨rfl, (by repeat (first | with_reducible exact HI.out.1.u | with_reducible exact Up.refl _ | apply Up.ext | apply Up.alloc | apply Up.drew | (refine Up.setCell ?_ (by simp [World.setCell]; try omega) _)))⟩
  · skip
    refine (HB.out.1.reads g2.out).mono ?_
    intro e2
    have k0 := HB.out.1.s.cell 0 rfl
    have k1 := HB.out.1.s.cell 1 rfl
    have k2 := HB.out.1.s.cell 2 rfl
    have k3 := HB.out.1.s.cell 3 rfl
    have lk := HB.out.1.s.lt
    have o0 := HB.out.1.o.cell 0 rfl
    have o1 := HB.out.1.o.cell 1 rfl
    have o2 := HB.out.1.o.cell 2 rfl
    have o3 := HB.out.1.o.cell 3 rfl
    have o4 := HB.out.1.o.cell 4 rfl
    have o5 := HB.out.1.o.cell 5 rfl
    have o6 := HB.out.1.o.cell 6 rfl
    have o7 := HB.out.1.o.cell 7 rfl
    have o8 := HB.out.1.o.cell 8 rfl
    have o9 := HB.out.1.o.cell 9 rfl
    have o10 := HB.out.1.o.cell 10 rfl
    have lo := HB.out.1.o.lt
    have h0 := HB.out.2.cell 0 rfl
    have h1 := HB.out.2.cell 1 rfl
    have lh := HB.out.2.lt
    go_wp2_with fail
    go_at_call 11
    refine ((HB.out.1.more (by repeat (first | with_reducible exact Up.refl _ | with_reducible apply Up.plus | apply Up.ext | apply Up.alloc | apply Up.drew | (refine Up.setCell ?_ (by simp; try omega) _)))).field g1.out).mono ?_
    intro e3
    go_wp2_with fail
    obtain ⟨T, hT⟩ : ∃ T, T = U.heap.size + e2.os.size := ⟨_, rfl⟩
    rw [← hT]
    obtain ⟨VV, hVV⟩ : ∃ VV, VV = T + 1 + e3.os.size := ⟨_, rfl⟩
    rw [← hVV]
    go_loopw [18] (fun s18 wr => ∃ k : Nat, s18 = .int .i64 k ∧ k ≤ 5 ∧ Hid (M6 w a n c sa sn sc ca cn cc s home X Y o G wr ∧ Box wr H #[.int .i64 (x2), .int .i64 (y2)] 32 ∧ Box wr T #[.int .i64 (l1), .int .i64 (l2)] 38 ∧ Box wr VV #[.int .i64 (va), .int .i64 (l1), .int .i64 (l2), .int .i64 ((l1 - 1)), .int .i64 ((l2 + 1))] 2)) (fun s18 _ => 5 - (intOf s18).toNat)
    case atStart => exact ⟨0, rfl, by omega, hide ⟨HB.out.1.more (by repeat (first | with_reducible exact Up.refl _ | with_reducible apply Up.plus | apply Up.ext | apply Up.alloc | apply Up.drew | (refine Up.setCell ?_ (by simp; try omega) _))), HB.out.2.up (by repeat (first | with_reducible exact Up.refl _ | with_reducible apply Up.plus | apply Up.ext | apply Up.alloc | apply Up.drew | (refine Up.setCell ?_ (by simp; try omega) _))), by rw [hT]; exact (by repeat (first | exact Box.mk rfl | (refine Box.mk ?_; simp; done) | apply Box.ext | apply Box.drew | apply Box.alloc | apply Box.two1 | (refine Box.other ?_ (by omega) _ _))), by rw [hVV, hT]; exact (by repeat (first | exact Box.mk rfl | (refine Box.mk ?_; simp; done) | apply Box.ext | apply Box.drew | apply Box.alloc | apply Box.two1 | (refine Box.other ?_ (by omega) _ _)))⟩⟩
    case round =>
      obtain ⟨k, rfl, hk5, HI⟩ := hrel
      clear hVV hT
      clear k0 k1 k2 k3 lk o0 o1 o2 o3 o4 o5 o6 o7 o8 o9 o10 lo h0 h1 lh
      have k0 := HI.out.1.s.cell 0 rfl
      have k1 := HI.out.1.s.cell 1 rfl
      have k2 := HI.out.1.s.cell 2 rfl
      have k3 := HI.out.1.s.cell 3 rfl
      have lk := HI.out.1.s.lt
      have o0 := HI.out.1.o.cell 0 rfl
      have o1 := HI.out.1.o.cell 1 rfl
      have o2 := HI.out.1.o.cell 2 rfl
      have o3 := HI.out.1.o.cell 3 rfl
      have o4 := HI.out.1.o.cell 4 rfl
      have o5 := HI.out.1.o.cell 5 rfl
      have o6 := HI.out.1.o.cell 6 rfl
      have o7 := HI.out.1.o.cell 7 rfl
      have o8 := HI.out.1.o.cell 8 rfl
      have o9 := HI.out.1.o.cell 9 rfl
      have o10 := HI.out.1.o.cell 10 rfl
      have lo := HI.out.1.o.lt
      have h0 := HI.out.2.1.cell 0 rfl
      have h1 := HI.out.2.1.cell 1 rfl
      have lh := HI.out.2.1.lt
      have t0 := HI.out.2.2.1.cell 0 rfl
      have t1 := HI.out.2.2.1.cell 1 rfl
      have lt := HI.out.2.2.1.lt
      have lv := HI.out.2.2.2.lt
      by_cases hk : k < 5
      · have hkb : decide ((k : Int) < 5) = true := by simp; omega
        have hkk : decide (k < 5) = true := by simp; omega
        obtain ⟨v, hv⟩ : ∃ v, (#[.int .i64 (va), .int .i64 (l1), .int .i64 (l2), .int .i64 ((l1 - 1)), .int .i64 ((l2 + 1))] : Array Value)[k]? = some (.int .i64 v) := by
          match k, hk with
          | 0, _ => exact ⟨_, rfl⟩
          | 1, _ => exact ⟨_, rfl⟩
          | 2, _ => exact ⟨_, rfl⟩
          | 3, _ => exact ⟨_, rfl⟩
          | 4, _ => exact ⟨_, rfl⟩
        have cv := HI.out.2.2.2.cell k hv
        have cv2 : wr.cell? ⟨VV, k * 1, none⟩ = some (.int .i64 v) := by rw [Nat.mul_one]; exact cv
        have cv3 : wr.cell? ⟨VV, 0 + k, none⟩ = some (.int .i64 v) := by rw [Nat.zero_add]; exact cv
        have cv4 : wr.cell? ⟨VV, 0 + k * 1, none⟩ = some (.int .i64 v) := by rw [Nat.zero_add, Nat.mul_one]; exact cv
        clear hv
        have gA : agreesV s o 2 v (x2, y2) = false := by rw [A2.out v]; rfl
        have gB : agreesV s o 1 v (x2, y2) = false := A1.out v
        replace gA := hide gA
        replace gB := hide gB
        go_wp2_with fail
        ((first | with_reducible refine wp_region_ext2 (by kernel_rfl) (by kernel_rfl) ?_ | refine wp_region_ext (by kernel_rfl) (by kernel_rfl) ?_); (repeat (go_big_quiet_step (fail))); refine wpQuiet_nil ?_; intro _ hw'; obtain ⟨_, hw''⟩ := hw'; subst hw'')
        go_wp2_with fail
        ((first | with_reducible refine wp_region_ext2 (by kernel_rfl) (by kernel_rfl) ?_ | refine wp_region_ext (by kernel_rfl) (by kernel_rfl) ?_); (repeat (go_big_quiet_step ((first | (go_at_call 14; with_reducible exact Gives.inRegion (((HI.out.1.more ((Up.refl _).ext _)).agrees gA.out))) | (go_at_call 14; with_reducible exact Gives.inRegion (((HI.out.1.more ((Up.refl _).ext _)).agrees gB.out))))))); refine wpQuiet_nil ?_; intro _ hw'; obtain ⟨_, hw''⟩ := hw'; subst hw'')
        go_wp2_with fail
        go_roundw
        case rel => exact ⟨k + 1, by go_num, by omega, hide ⟨HI.out.1.more (by repeat (first | with_reducible exact Up.refl _ | with_reducible apply Up.plus | apply Up.ext | apply Up.alloc | apply Up.drew | (refine Up.setCell ?_ (by simp; try omega) _))), HI.out.2.1.up (by repeat (first | with_reducible exact Up.refl _ | with_reducible apply Up.plus | apply Up.ext | apply Up.alloc | apply Up.drew | (refine Up.setCell ?_ (by simp; try omega) _))), HI.out.2.2.1.up (by repeat (first | with_reducible exact Up.refl _ | with_reducible apply Up.plus | apply Up.ext | apply Up.alloc | apply Up.drew | (refine Up.setCell ?_ (by simp; try omega) _))), HI.out.2.2.2.up (by repeat (first | with_reducible exact Up.refl _ | with_reducible apply Up.plus | apply Up.ext | apply Up.alloc | apply Up.drew | (refine Up.setCell ?_ (by simp; try omega) _)))⟩⟩
        case measure => simp [intOf]; omega
      · obtain rfl : k = 5 := by omega
        go_wp2_with fail
        go_at_call 14
        refine ((HI.out.1.more (by repeat (first | with_reducible exact Up.refl _ | with_reducible apply Up.plus | apply Up.ext | apply Up.alloc | apply Up.drew | (refine Up.setCell ?_ (by simp; try omega) _)))).agrees A0.out).mono ?_
        intro e4
        go_wp2_with fail
        go_at_call 13
        refine (HA.out _).mono ?_
        intro e5
        go_wp2_with fail
        go_ret
        exact ⟨rfl, (by repeat (first | with_reducible exact HI.out.1.u | with_reducible exact Up.refl _ | apply Up.ext | apply Up.alloc | apply Up.drew | (refine Up.setCell ?_ (by simp [World.setCell]; try omega) _)))⟩
  · skip
    refine (HB.out.1.reads g2.out).mono ?_
    intro e2
    have k0 := HB.out.1.s.cell 0 rfl
    have k1 := HB.out.1.s.cell 1 rfl
    have k2 := HB.out.1.s.cell 2 rfl
    have k3 := HB.out.1.s.cell 3 rfl
    have lk := HB.out.1.s.lt
    have o0 := HB.out.1.o.cell 0 rfl
    have o1 := HB.out.1.o.cell 1 rfl
    have o2 := HB.out.1.o.cell 2 rfl
    have o3 := HB.out.1.o.cell 3 rfl
    have o4 := HB.out.1.o.cell 4 rfl
    have o5 := HB.out.1.o.cell 5 rfl
    have o6 := HB.out.1.o.cell 6 rfl
    have o7 := HB.out.1.o.cell 7 rfl
    have o8 := HB.out.1.o.cell 8 rfl
    have o9 := HB.out.1.o.cell 9 rfl
    have o10 := HB.out.1.o.cell 10 rfl
    have lo := HB.out.1.o.lt
    have h0 := HB.out.2.cell 0 rfl
    have h1 := HB.out.2.cell 1 rfl
    have lh := HB.out.2.lt
    go_wp2_with fail
    go_at_call 11
    refine ((HB.out.1.more (by repeat (first | with_reducible exact Up.refl _ | with_reducible apply Up.plus | apply Up.ext | apply Up.alloc | apply Up.drew | (refine Up.setCell ?_ (by simp; try omega) _)))).field g1.out).mono ?_
    intro e3
    go_wp2_with fail
    obtain ⟨T, hT⟩ : ∃ T, T = U.heap.size + e2.os.size := ⟨_, rfl⟩
    rw [← hT]
    obtain ⟨VV, hVV⟩ : ∃ VV, VV = T + 1 + e3.os.size := ⟨_, rfl⟩
    rw [← hVV]
    go_loopw [18] (fun s18 wr => ∃ k : Nat, s18 = .int .i64 k ∧ k ≤ 5 ∧ Hid (M6 w a n c sa sn sc ca cn cc s home X Y o G wr ∧ Box wr H #[.int .i64 (x2), .int .i64 (y2)] 32 ∧ Box wr T #[.int .i64 (l1), .int .i64 (l2)] 38 ∧ Box wr VV #[.int .i64 (va), .int .i64 (l1), .int .i64 (l2), .int .i64 ((l1 - 1)), .int .i64 ((l2 + 1))] 2)) (fun s18 _ => 5 - (intOf s18).toNat)
    case atStart => exact ⟨0, rfl, by omega, hide ⟨HB.out.1.more (by repeat (first | with_reducible exact Up.refl _ | with_reducible apply Up.plus | apply Up.ext | apply Up.alloc | apply Up.drew | (refine Up.setCell ?_ (by simp; try omega) _))), HB.out.2.up (by repeat (first | with_reducible exact Up.refl _ | with_reducible apply Up.plus | apply Up.ext | apply Up.alloc | apply Up.drew | (refine Up.setCell ?_ (by simp; try omega) _))), by rw [hT]; exact (by repeat (first | exact Box.mk rfl | (refine Box.mk ?_; simp; done) | apply Box.ext | apply Box.drew | apply Box.alloc | apply Box.two1 | (refine Box.other ?_ (by omega) _ _))), by rw [hVV, hT]; exact (by repeat (first | exact Box.mk rfl | (refine Box.mk ?_; simp; done) | apply Box.ext | apply Box.drew | apply Box.alloc | apply Box.two1 | (refine Box.other ?_ (by omega) _ _)))⟩⟩
    case round =>
      obtain ⟨k, rfl, hk5, HI⟩ := hrel
      clear hVV hT
      clear k0 k1 k2 k3 lk o0 o1 o2 o3 o4 o5 o6 o7 o8 o9 o10 lo h0 h1 lh
      have k0 := HI.out.1.s.cell 0 rfl
      have k1 := HI.out.1.s.cell 1 rfl
      have k2 := HI.out.1.s.cell 2 rfl
      have k3 := HI.out.1.s.cell 3 rfl
      have lk := HI.out.1.s.lt
      have o0 := HI.out.1.o.cell 0 rfl
      have o1 := HI.out.1.o.cell 1 rfl
      have o2 := HI.out.1.o.cell 2 rfl
      have o3 := HI.out.1.o.cell 3 rfl
      have o4 := HI.out.1.o.cell 4 rfl
      have o5 := HI.out.1.o.cell 5 rfl
      have o6 := HI.out.1.o.cell 6 rfl
      have o7 := HI.out.1.o.cell 7 rfl
      have o8 := HI.out.1.o.cell 8 rfl
      have o9 := HI.out.1.o.cell 9 rfl
      have o10 := HI.out.1.o.cell 10 rfl
      have lo := HI.out.1.o.lt
      have h0 := HI.out.2.1.cell 0 rfl
      have h1 := HI.out.2.1.cell 1 rfl
      have lh := HI.out.2.1.lt
      have t0 := HI.out.2.2.1.cell 0 rfl
      have t1 := HI.out.2.2.1.cell 1 rfl
      have lt := HI.out.2.2.1.lt
      have lv := HI.out.2.2.2.lt
      by_cases hk : k < 5
      · have hkb : decide ((k : Int) < 5) = true := by simp; omega
        have hkk : decide (k < 5) = true := by simp; omega
        obtain ⟨v, hv⟩ : ∃ v, (#[.int .i64 (va), .int .i64 (l1), .int .i64 (l2), .int .i64 ((l1 - 1)), .int .i64 ((l2 + 1))] : Array Value)[k]? = some (.int .i64 v) := by
          match k, hk with
          | 0, _ => exact ⟨_, rfl⟩
          | 1, _ => exact ⟨_, rfl⟩
          | 2, _ => exact ⟨_, rfl⟩
          | 3, _ => exact ⟨_, rfl⟩
          | 4, _ => exact ⟨_, rfl⟩
        have cv := HI.out.2.2.2.cell k hv
        have cv2 : wr.cell? ⟨VV, k * 1, none⟩ = some (.int .i64 v) := by rw [Nat.mul_one]; exact cv
        have cv3 : wr.cell? ⟨VV, 0 + k, none⟩ = some (.int .i64 v) := by rw [Nat.zero_add]; exact cv
        have cv4 : wr.cell? ⟨VV, 0 + k * 1, none⟩ = some (.int .i64 v) := by rw [Nat.zero_add, Nat.mul_one]; exact cv
        clear hv
        have hc : (l1 ≤ v ∧ v ≤ l2) ∨ ¬ l1 ≤ v ∨ (l1 ≤ v ∧ ¬ v ≤ l2) := by omega
        rcases hc with ⟨h1, h2⟩ | h1 | ⟨h1, h2⟩
        · have b1 : decide (l1 ≤ v) = true := decide_eq_true h1
          have b2 : decide (v ≤ l2) = true := decide_eq_true h2
          have hw : withinB v l1 l2 = true := decide_eq_true ⟨h1, h2⟩
          have gA : agreesV s o 2 v (x2, y2) = true := by rw [A2.out v, hw]; rfl
          have gB : agreesV s o 1 v (x2, y2) = false := A1.out v
          replace gA := hide gA
          replace gB := hide gB
          clear hw
          go_wp2_with fail
          ((first | with_reducible refine wp_region_ext2 (by kernel_rfl) (by kernel_rfl) ?_ | refine wp_region_ext (by kernel_rfl) (by kernel_rfl) ?_); (repeat (go_big_quiet_step (fail))); refine wpQuiet_nil ?_; intro _ hw'; obtain ⟨_, hw''⟩ := hw'; subst hw'')
          go_wp2_with fail
          ((first | with_reducible refine wp_region_ext2 (by kernel_rfl) (by kernel_rfl) ?_ | refine wp_region_ext (by kernel_rfl) (by kernel_rfl) ?_); (repeat (go_big_quiet_step ((first | (go_at_call 14; with_reducible exact Gives.inRegion (((HI.out.1.more ((Up.refl _).ext _)).agrees gA.out))) | (go_at_call 14; with_reducible exact Gives.inRegion (((HI.out.1.more ((Up.refl _).ext _)).agrees gB.out))))))); refine wpQuiet_nil ?_; intro _ hw'; obtain ⟨_, hw''⟩ := hw'; subst hw'')
          go_wp2_with fail
          go_roundw
          case rel => exact ⟨k + 1, by go_num, by omega, hide ⟨HI.out.1.more (by repeat (first | with_reducible exact Up.refl _ | with_reducible apply Up.plus | apply Up.ext | apply Up.alloc | apply Up.drew | (refine Up.setCell ?_ (by simp; try omega) _))), HI.out.2.1.up (by repeat (first | with_reducible exact Up.refl _ | with_reducible apply Up.plus | apply Up.ext | apply Up.alloc | apply Up.drew | (refine Up.setCell ?_ (by simp; try omega) _))), HI.out.2.2.1.up (by repeat (first | with_reducible exact Up.refl _ | with_reducible apply Up.plus | apply Up.ext | apply Up.alloc | apply Up.drew | (refine Up.setCell ?_ (by simp; try omega) _))), HI.out.2.2.2.up (by repeat (first | with_reducible exact Up.refl _ | with_reducible apply Up.plus | apply Up.ext | apply Up.alloc | apply Up.drew | (refine Up.setCell ?_ (by simp; try omega) _)))⟩⟩
          case measure => simp [intOf]; omega
        · have b1 : decide (l1 ≤ v) = false := decide_eq_false h1
          have hw : withinB v l1 l2 = false := decide_eq_false (by omega)
          have gA : agreesV s o 2 v (x2, y2) = false := by rw [A2.out v, hw]; rfl
          have gB : agreesV s o 1 v (x2, y2) = false := A1.out v
          replace gA := hide gA
          replace gB := hide gB
          clear hw
          go_wp2_with fail
          ((first | with_reducible refine wp_region_ext2 (by kernel_rfl) (by kernel_rfl) ?_ | refine wp_region_ext (by kernel_rfl) (by kernel_rfl) ?_); (repeat (go_big_quiet_step (fail))); refine wpQuiet_nil ?_; intro _ hw'; obtain ⟨_, hw''⟩ := hw'; subst hw'')
          go_wp2_with fail
          ((first | with_reducible refine wp_region_ext2 (by kernel_rfl) (by kernel_rfl) ?_ | refine wp_region_ext (by kernel_rfl) (by kernel_rfl) ?_); (repeat (go_big_quiet_step ((first | (go_at_call 14; with_reducible exact Gives.inRegion (((HI.out.1.more ((Up.refl _).ext _)).agrees gA.out))) | (go_at_call 14; with_reducible exact Gives.inRegion (((HI.out.1.more ((Up.refl _).ext _)).agrees gB.out))))))); refine wpQuiet_nil ?_; intro _ hw'; obtain ⟨_, hw''⟩ := hw'; subst hw'')
          go_wp2_with fail
          go_roundw
          case rel => exact ⟨k + 1, by go_num, by omega, hide ⟨HI.out.1.more (by repeat (first | with_reducible exact Up.refl _ | with_reducible apply Up.plus | apply Up.ext | apply Up.alloc | apply Up.drew | (refine Up.setCell ?_ (by simp; try omega) _))), HI.out.2.1.up (by repeat (first | with_reducible exact Up.refl _ | with_reducible apply Up.plus | apply Up.ext | apply Up.alloc | apply Up.drew | (refine Up.setCell ?_ (by simp; try omega) _))), HI.out.2.2.1.up (by repeat (first | with_reducible exact Up.refl _ | with_reducible apply Up.plus | apply Up.ext | apply Up.alloc | apply Up.drew | (refine Up.setCell ?_ (by simp; try omega) _))), HI.out.2.2.2.up (by repeat (first | with_reducible exact Up.refl _ | with_reducible apply Up.plus | apply Up.ext | apply Up.alloc | apply Up.drew | (refine Up.setCell ?_ (by simp; try omega) _)))⟩⟩
          case measure => simp [intOf]; omega
        · have b1 : decide (l1 ≤ v) = true := decide_eq_true h1
          have b2 : decide (v ≤ l2) = false := decide_eq_false h2
          have hw : withinB v l1 l2 = false := decide_eq_false (by omega)
          have gA : agreesV s o 2 v (x2, y2) = false := by rw [A2.out v, hw]; rfl
          have gB : agreesV s o 1 v (x2, y2) = false := A1.out v
          replace gA := hide gA
          replace gB := hide gB
          clear hw
          go_wp2_with fail
          ((first | with_reducible refine wp_region_ext2 (by kernel_rfl) (by kernel_rfl) ?_ | refine wp_region_ext (by kernel_rfl) (by kernel_rfl) ?_); (repeat (go_big_quiet_step (fail))); refine wpQuiet_nil ?_; intro _ hw'; obtain ⟨_, hw''⟩ := hw'; subst hw'')
          go_wp2_with fail
          ((first | with_reducible refine wp_region_ext2 (by kernel_rfl) (by kernel_rfl) ?_ | refine wp_region_ext (by kernel_rfl) (by kernel_rfl) ?_); (repeat (go_big_quiet_step ((first | (go_at_call 14; with_reducible exact Gives.inRegion (((HI.out.1.more ((Up.refl _).ext _)).agrees gA.out))) | (go_at_call 14; with_reducible exact Gives.inRegion (((HI.out.1.more ((Up.refl _).ext _)).agrees gB.out))))))); refine wpQuiet_nil ?_; intro _ hw'; obtain ⟨_, hw''⟩ := hw'; subst hw'')
          go_wp2_with fail
          go_roundw
          case rel => exact ⟨k + 1, by go_num, by omega, hide ⟨HI.out.1.more (by repeat (first | with_reducible exact Up.refl _ | with_reducible apply Up.plus | apply Up.ext | apply Up.alloc | apply Up.drew | (refine Up.setCell ?_ (by simp; try omega) _))), HI.out.2.1.up (by repeat (first | with_reducible exact Up.refl _ | with_reducible apply Up.plus | apply Up.ext | apply Up.alloc | apply Up.drew | (refine Up.setCell ?_ (by simp; try omega) _))), HI.out.2.2.1.up (by repeat (first | with_reducible exact Up.refl _ | with_reducible apply Up.plus | apply Up.ext | apply Up.alloc | apply Up.drew | (refine Up.setCell ?_ (by simp; try omega) _))), HI.out.2.2.2.up (by repeat (first | with_reducible exact Up.refl _ | with_reducible apply Up.plus | apply Up.ext | apply Up.alloc | apply Up.drew | (refine Up.setCell ?_ (by simp; try omega) _)))⟩⟩
          case measure => simp [intOf]; omega
      · obtain rfl : k = 5 := by omega
        go_wp2_with fail
        go_at_call 14
        refine ((HI.out.1.more (by repeat (first | with_reducible exact Up.refl _ | with_reducible apply Up.plus | apply Up.ext | apply Up.alloc | apply Up.drew | (refine Up.setCell ?_ (by simp; try omega) _)))).agrees A0.out).mono ?_
        intro e4
        go_wp2_with fail
        go_at_call 13
        refine (HA.out _).mono ?_
        intro e5
        go_wp2_with fail
        go_ret
        exact ⟨rfl, (by repeat (first | with_reducible exact HI.out.1.u | with_reducible exact Up.refl _ | apply Up.ext | apply Up.alloc | apply Up.drew | (refine Up.setCell ?_ (by simp [World.setCell]; try omega) _)))⟩

set_option maxRecDepth 100000 in
theorem wreads_lifted (os : Os) (started : os.Started) (H : Type) (enc : TypeId × Value → H) :
    ReturnsInHanded {} Try.checked os 4 .any (Rows.watchReadsSpec.pre6 enc Try.prog Try.f4 Rows.watchReadsRow.domain false) (Rows.watchReadsSpec.post enc Try.prog Try.f4 false true false false) := by
  refine returnsInHanded_of_change (C := Try.checked) knob_own started (by kernel_rfl) Try.func4
    (ChangeSpec.witness6 (enc := enc) (C := Try.checked) false ⟨#[], #[.slice none 0 0, .int .i64 0, .int .i64 0, .int .i64 0], []⟩ 8 (by kernel_rfl) (by kernel_rfl) (by kernel_rfl) (by kernel_rfl)) ?_
  intro W base args ds gs before hval0 hW _ _
  have hval : ∀ (j : Nat) t v, Try.f4.params[j]? = some t → args[j]? = some v → Value.okWide Try.prog W .any base t v := hval0
  have hW' := hW
  obtain ⟨p, q, hA0, hV, rfl, _, _⟩ := hW
  have hA : DataW.TrodAll enc Try.prog W 0 (fun _ => true) true Try.f4.params.toList args.toList ds p := hA0
  rw [Try.params4] at hA hval
  obtain ⟨v0, vs0, d0, ds0, p0, q0, hargs, rfl, rfl, h0, r0⟩ := trodAll_cons hA
  obtain ⟨v1, vs1, d1, ds1, p1, q1, rfl, rfl, rfl, h1, r1⟩ := trodAll_cons r0
  obtain ⟨v2, vs2, d2, ds2, p2, q2, rfl, rfl, rfl, h2, r2⟩ := trodAll_cons r1
  obtain ⟨v3, vs3, d3, ds3, p3, q3, rfl, rfl, rfl, h3, r3⟩ := trodAll_cons r2
  obtain ⟨rfl, rfl, rfl⟩ := trodAll_nil r3
  obtain rfl : args = #[v0, v1, v2, v3] := by cases args; simp_all
  obtain ⟨rfl, rfl⟩ := trodVars_none hV
  have hlt0 : ∀ x ∈ p0, x.block < W.heap.size := fun x hx => hW'.lt x (by simp [hx])
  obtain ⟨hn0, shut0⟩ := open_nums (hval 0 22 v0 rfl rfl) h0 hlt0
  obtain ⟨a1, rfl, rfl, rfl, w1⟩ := open_int Try.underlying2 (hval 1 2 v1 rfl rfl) h1
  obtain ⟨a2, rfl, rfl, rfl, w2⟩ := open_int Try.underlying2 (hval 2 2 v2 rfl rfl) h2
  obtain ⟨a3, rfl, rfl, rfl, w3⟩ := open_int Try.underlying2 (hval 3 2 v3 rfl rfl) h3
  clear hA0 hval0
  simp only [List.append_nil] at hW'
  refine (wreads_law v0 hn0 a1 a2 a3 (i64_bds w1) (i64_bds w2) (i64_bds w3) ).mono fun px => ?_
  exact ⟨_, rfl, post_of_below (pa := (p0 ++ (([] : List MemPlace) ++ (([] : List MemPlace) ++ (([] : List MemPlace) ++ []))))) (pv := []) hW' (fun _ _ _ => (trodAll_cons_mk (shut_bool Try.underlying4 _) trodAll_mk0)) (fun sp hsp => (trodAll_cons_mk (shut0 _ sp (Up.below ⟨px, rfl⟩) (fun x hx => hsp x (by simp [hx]))) (trodAll_cons_mk (shut_int Try.underlying2 w1) (trodAll_cons_mk (shut_int Try.underlying2 w2) (trodAll_cons_mk (shut_int Try.underlying2 w3) trodAll_mk0))))) (fun _ _ => rfl) (by simp)
    (Up.below ⟨px, rfl⟩) (ok_one (by kernel_rfl) rfl (okWide_bool_mk Try.underlying4 _))⟩

theorem wreads_holds : Rows.WatchReadsSaid :=
  OpenClaim.holds_of_wide 4 Try.f4 rfl rfl rfl rfl rfl rfl rfl ⟨rfl, rfl, rfl, rfl, rfl⟩ rfl rfl rfl rfl rfl (by kernel_rfl) Try.func4 (by kernel_rfl)
    (of_decide_eq_true (by kernel_rfl)) (by unfold Func.isWrapper; rw [if_neg (by decide +kernel)]; exact ⟨rfl, rfl⟩)
    (fun os started H enc _ => wreads_lifted os started H enc)
#print axioms wreads_holds
end Go.Proofs.Ytnaiaodnnmhdkaa
