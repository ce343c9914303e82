/- SpanCertain returns true for every input: if two areas surely hit, each segment from the one to the other comes within the radius, if they are surely clear, none does; both never hold; lesser areas are hit and clear, too. No conditions. -/
import Derived.Test.YtfpdnmfklmgmfaaPostn
import Derived.Test.YtfpdnmfklmgmfaaCert
import Derived.Test.YtfpdnmfklmgmfaaRingF
import Derived.Test.YtfpdnmfklmgmfaaStore
import Derived.Test.YtfpdnmfklmgmfaaAwake
import Derived.JoinedOf
import Derived.JoinedAt
import Derived.ChangeSame
import Derived.OpenShut
import Derived.Deep.DeepCutAuto
import Derived.Outline
namespace Go.Proofs.Ytfpdnmfklmgmfaa
open Go.RowKit Go.ChangeShapes Go.WideShapes Go.ChangeAt Go.Joins


theorem cert_facts {a b : Ar} {r x y u v : Int} (ha : validA a) (hb : validA b) (r0 : 0 ≤ r) (r1 : r ≤ 268435456) (hp : inA a x y) (hq : inA b u v) :
    ∃ c : Bool, withinS x y u v r = c ∧ (hitsB a b r = true → c = true) ∧ (clearB a b r = true → c = false) ∧ (hitsB a b r = true → hitsB (x, a.2.1, a.2.2.1, y) (b.1, u, v, b.2.2.2) r = true) ∧
      (clearB a b r = true → clearB (x, a.2.1, a.2.2.1, y) (b.1, u, v, b.2.2.2) r = true) ∧ clearB (x, x, y, y) (u, u, v, v) r = !c ∧ hitsB (x, x, y, y) (u, u, v, v) r = c := by
  obtain ⟨⟨p0, p1⟩, p2, p3⟩ := hp
  obtain ⟨⟨q0, q1⟩, q2, q3⟩ := hq
  obtain ⟨⟨a0, a1, a2⟩, a3, a4, a5⟩ := ha
  obtain ⟨⟨b0, b1, b2⟩, b3, b4, b5⟩ := hb
  have c1 : validA (x, a.2.1, a.2.2.1, y) := ⟨⟨by simp only; omega, by simp only; omega, by simp only; omega⟩, by simp only; omega, by simp only; omega, by simp only; omega⟩
  have c2 : validA (b.1, u, v, b.2.2.2) := ⟨⟨by simp only; omega, by simp only; omega, by simp only; omega⟩, by simp only; omega, by simp only; omega, by simp only; omega⟩
  have s1 : subA (x, a.2.1, a.2.2.1, y) a := ⟨p0, Int.le_refl _, Int.le_refl _, p3⟩
  have s2 : subA (b.1, u, v, b.2.2.2) b := ⟨Int.le_refl _, q1, q2, Int.le_refl _⟩
  refine ⟨comesB x y u v r, ?_, fun h => hits_all h ⟨⟨p0, p1⟩, p2, p3⟩ ⟨⟨q0, q1⟩, q2, q3⟩, fun h => clear_none h ⟨⟨p0, p1⟩, p2, p3⟩ ⟨⟨q0, q1⟩, q2, q3⟩, fun h => hits_inside h c1 c2 s1 s2, fun h => clear_inside h c1 c2 s1 s2,
    clear_sole (by omega) (by omega) r0 r1, hits_sole (by omega) (by omega) r0 r1⟩
  unfold withinS asks2B
  rw [(farV_iff (x, y)).2 (by simp only; omega), (farV_iff (u, v)).2 (by simp only; omega)]
  simp [withinB, r0, r1]

set_option maxRecDepth 100000 in
set_option maxHeartbeats 100000000 in
theorem cert_law (v0 : Value) {w : World} (hN : Nums w v0) (r0 : Int) (hr : -9223372036854775808 ≤ r0 ∧ r0 ≤ 9223372036854775807) :
    Gives Try.prog 14 #[v0, .int .i64 r0] w (.bool true) := by
  obtain ⟨sa, sn, sc, rfl⟩ := hN.form
  obtain ⟨r, hm, m0, m1⟩ : ∃ m, r0 % 90 = m ∧ 0 ≤ m ∧ m < 90 := ⟨_, rfl, by omega, by omega⟩
  have KM := hide (fun W => mod64_any r0 90 hr.1 hr.2 (by omega) (by omega) W)
  rw [hm] at KM
  have KA := hide (areaof_r hN (Nat.le_refl w.heap.size) (most := 60) (wide := 40) (by omega) (by omega) (by omega) (by omega))
  have KI := hide (fun (a b c d : Int) a0 ab b1 c0 cd d1 => somein_r hN (Nat.le_refl w.heap.size) (a := a) (b := b) (c := c) (d := d) a0 ab b1 c0 cd d1)
  clear hm hr hN
  (unfold Gives; go_enter Try.func14, Try.ntmps14)
  go_wp2_with fail
  refine (newring_any _ _ _ _).mono ?_
  rintro _ _ ⟨rfl, rfl⟩
  go_wp2_with fail
  refine (KA.out _ _ (by repeat (first | with_reducible exact Up.refl _ | apply Up.ext | apply Up.alloc | apply Up.drew | (refine Up.setCell ?_ (by simp; try omega) _))) (by repeat (first | exact Box.mk rfl | exact Box.mk (by simp) | apply Box.ext | apply Box.drew | apply Box.alloc | apply Box.two1 | (refine Box.other ?_ (by omega) _ _))) (by omega) (by omega)).mono ?_
  rintro _ _ ⟨_, t1, pa, rfl, ⟨a, b, c, d, ⟨a0, ab, b1⟩, ⟨c0, cd, d1⟩, rfl⟩, t10, t11, rfl⟩
  go_wp2_with fail
  refine (KA.out _ _ (by repeat (first | with_reducible exact Up.refl _ | apply Up.ext | apply Up.alloc | apply Up.drew | (refine Up.setCell ?_ (by simp; try omega) _))) (by repeat (first | exact Box.mk rfl | exact Box.mk (by simp) | apply Box.ext | apply Box.drew | apply Box.alloc | apply Box.two1 | (refine Box.other ?_ (by omega) _ _))) (by omega) (by omega)).mono ?_
  rintro _ _ ⟨_, t2, pb, rfl, ⟨e, f, g, h, ⟨e0, ef, f1⟩, ⟨g0, gh, h1⟩, rfl⟩, t20, t21, rfl⟩
  have va : validA (a, b, c, d) := ⟨⟨by simp only; omega, ab, by simp only; omega⟩, by simp only; omega, cd, by simp only; omega⟩
  have vb : validA (e, f, g, h) := ⟨⟨by simp only; omega, ef, by simp only; omega⟩, by simp only; omega, gh, by simp only; omega⟩
  have HF := fun (x y u v : Int) hp hq => cert_facts va vb m0 (show r ≤ 268435456 by omega) (x := x) (y := y) (u := u) (v := v) hp hq
  have KH := fun W => hits_any (a, b, c, d) (e, f, g, h) r W
  have KC := fun W => clear_any (a, b, c, d) (e, f, g, h) r W
  have KD := fun W => clear_any (e, f, g, h) (a, b, c, d) r W
  rw [← clear_turn (a, b, c, d) (e, f, g, h) r] at KD
  have hnb : hitsB (a, b, c, d) (e, f, g, h) r = true → clearB (a, b, c, d) (e, f, g, h) r = false := fun h1 => by
    cases h2 : clearB (a, b, c, d) (e, f, g, h) r with
    | false => rfl
    | true => exact (not_both h1 h2).elim
  generalize hitsB (a, b, c, d) (e, f, g, h) r = ht at *
  generalize clearB (a, b, c, d) (e, f, g, h) r = cl at *
  simp only at HF KH KC KD
  have HF := hide HF
  have KH := hide KH
  have KC := hide KC
  have KD := hide KD
  have HNB := hide hnb
  clear hnb va vb
  go_upto_region 4 with (go_at_call 25; (with_reducible refine (KM.out _).mono ?_); intro _)
  generalize pa.plus pb = px
  refine wp_forget (fun wy => Up w wy ∧ Box wy w.heap.size #[.slice sa sn sc, .int .i64 t2] 101 ∧ Box wy (w.heap.size + 1 + px.os.size) #[.int .i64 (a), .int .i64 (b), .int .i64 (c), .int .i64 (d)] 44 ∧ Box wy (w.heap.size + 1 + px.os.size + 1) #[.int .i64 (e), .int .i64 (f), .int .i64 (g), .int .i64 (h)] 44) ⟨(by repeat (first | with_reducible exact Up.refl _ | apply Up.ext | apply Up.alloc | apply Up.drew | (refine Up.setCell ?_ (by simp; try omega) _))), (by repeat (first | exact Box.mk rfl | exact Box.mk (by simp) | apply Box.ext | apply Box.drew | apply Box.alloc | apply Box.two1 | (refine Box.other ?_ (by omega) _ _))), (by repeat (first | exact Box.mk rfl | exact Box.mk (by simp) | apply Box.ext | apply Box.drew | apply Box.alloc | (refine Box.other ?_ (by omega) _ _))), (by repeat (first | exact Box.mk rfl | exact Box.mk (by simp) | apply Box.ext | apply Box.drew | apply Box.alloc | (refine Box.other ?_ (by omega) _ _)))⟩ (fun wy hwy => ?_)
  obtain ⟨hu, xr, xa, xb⟩ := hwy
  have B1 : w.heap.size ≠ w.heap.size + 1 + px.os.size := by omega
  have B2 : w.heap.size ≠ w.heap.size + 1 + px.os.size + 1 := by omega
  have B3 : w.heap.size + 1 + px.os.size ≠ w.heap.size + 1 + px.os.size + 1 := by omega
  have B4 : w.heap.size < w.heap.size + 1 + px.os.size := by omega
  generalize w.heap.size + 1 + px.os.size + 1 = gb at *
  generalize w.heap.size + 1 + px.os.size = ga at *
  obtain ⟨⟨ca0, ca1⟩, ca2, ca3⟩ := xa.four
  obtain ⟨⟨cb0, cb1⟩, cb2, cb3⟩ := xb.four
  have la := xa.lt
  have lb := xb.lt
  have HU := hide hu
  have XR := hide xr
  have XA := hide xa
  have XB := hide xb
  clear hu xr xa xb KM KA
  ((first | with_reducible refine wp_region_ext2 (by kernel_rfl) (by kernel_rfl) ?_ | refine wp_region_ext (by kernel_rfl) (by kernel_rfl) ?_); (repeat (go_big_quiet_step ((first | (go_at_call 63; with_reducible exact Gives.inRegion (KH.out _)) | (go_at_call 65; with_reducible exact Gives.inRegion (KC.out _)))))); refine wpQuiet_nil ?_; intro _ hw'; obtain ⟨_, hw''⟩ := hw'; subst hw'')
  clear ca0 ca1 ca2 ca3 cb0 cb1 cb2 cb3
  refine forgetW (fun wz => ∃ t : Int, 0 ≤ t ∧ t ≤ 12 ∧ Up w wz ∧ Box wz w.heap.size #[.slice sa sn sc, .int .i64 t] 101 ∧ Box wz ga #[.int .i64 (a), .int .i64 (b), .int .i64 (c), .int .i64 (d)] 44 ∧ Box wz gb #[.int .i64 (e), .int .i64 (f), .int .i64 (g), .int .i64 (h)] 44) ⟨t2, t20, by omega, HU.out.ext _, (XR.out).ext _, (XA.out).ext _, (XB.out).ext _⟩ (fun wz hwz => ?_)
  have HZ := hide hwz
  clear hwz XR XA XB HU la lb t10 t11 t20 t21
  cases ht <;> cases cl
  case true.true => exact absurd (HNB.out rfl) (by simp)
  all_goals
    clear HNB
    go_wp2
    go_loopw [10] (fun s10 wr => ∃ k : Nat, k ≤ 6 ∧ s10 = .int .i64 k ∧ Hid (∃ t : Int, 0 ≤ t ∧ t ≤ 12 + 4 * k ∧ Up w wr ∧ Box wr w.heap.size #[.slice sa sn sc, .int .i64 t] 101 ∧ Box wr ga #[.int .i64 (a), .int .i64 (b), .int .i64 (c), .int .i64 (d)] 44 ∧ Box wr gb #[.int .i64 (e), .int .i64 (f), .int .i64 (g), .int .i64 (h)] 44)) (fun s10 _ => 6 - (intOf s10).toNat)
    case atStart => exact ⟨0, by omega, rfl, hide (by simpa using HZ.out)⟩
    case round =>
      obtain ⟨k, hk, rfl, HR⟩ := hrel
      by_cases hlt : k < 6
      · obtain ⟨t, t0, t1, hu, xr, xa, xb⟩ := HR.out
        obtain ⟨⟨ca0, ca1⟩, ca2, ca3⟩ := xa.four
        obtain ⟨⟨cb0, cb1⟩, cb2, cb3⟩ := xb.four
        have la := xa.lt
        have lb := xb.lt
        have lr := xr.lt
        have HU := hide hu
        have XR := hide xr
        have XA := hide xa
        have XB := hide xb
        clear hu xr xa xb HR
        go_wp2
        refine wp_region_float (al := [(6, 11, #[.int .i64 (0), .int .i64 (0)], 23), (7, 12, #[.int .i64 (0), .int .i64 (0)], 23)]) (mv := fun k => k == 2 || k == 5) [8, 9] [0, 1, 3, 4, 2, 5] (by kernel_rfl) (by kernel_rfl) (makes2 ⟨_, rfl, rfl, fun _ => rfl, fun _ _ => by simp [go_sem]⟩ ⟨_, rfl, rfl, fun _ => rfl, fun _ _ => by simp [go_sem]⟩) (cls_ring _ w.heap.size (12 + 4 * k)) (ringAt_drew XR.out t0 t1) (Nat.le_refl _) ?_
        simp only [withOps, List.filterMap_cons, List.filterMap_nil, List.getElem?_toArray, List.getElem?_cons_zero, List.getElem?_cons_succ, Option.map_some]
        (repeat (first | (apply walkF_pure (base := ringBase _ _) rfl rfl rfl (by kernel_rfl); · (rintro ⟨tx, px⟩ K hK; unfold ringBase; dsimp only; go_big_quiet_op; first | exact hK | (apply Exists.intro; refine ⟨fun _ => ?_, ?_⟩; (· (fail)); exact hK))) | (apply walkF_skip rfl; simp only [Act.put, List.setIfInBounds_toArray, List.set_cons_zero, List.set_cons_succ])))
        refine walkF_call _ _ (ring_call (KI.out a b c d (by omega) ab (by omega) (by omega) cd (by omega)) HU.out XR.out (Nat.le_refl _) lr (by omega)) (fun _ _ => cls_ring _ _ _) rfl rfl (fun _ => by simp [go_sem]) ?_
        rintro _ ⟨x, y, x0, x1, y0, y1, rfl⟩
        simp only [Act.put, List.setIfInBounds_toArray, List.set_cons_zero, List.set_cons_succ]
        refine walkF_call _ _ (ring_call (KI.out e f g h (by omega) ef (by omega) (by omega) gh (by omega)) HU.out XR.out (Nat.le_refl _) lr (by omega)) (fun _ _ => cls_ring _ _ _) rfl rfl (fun _ => by simp [go_sem]) ?_
        rintro _ ⟨u, v, u0, u1, v0, v1, rfl⟩
        simp only [Act.put, List.setIfInBounds_toArray, List.set_cons_zero, List.set_cons_succ]
        refine walkF_nil (end2 (by decide) (fun g1 g2 W hg1 hg2 hg hW z1 z2 => ?_))
        simp only [Act.put, List.setIfInBounds_toArray, List.set_cons_zero, List.set_cons_succ]
        (try simp only [List.filterMap_cons, List.filterMap_nil, List.getElem?_toArray, List.getElem?_cons_zero, List.getElem?_cons_succ])
        refine forgetW (fun W => wr.heap.size ≤ g1 ∧ wr.heap.size ≤ g2 ∧ g1 ≠ g2 ∧ Box W g1 #[.int .i64 (0), .int .i64 (0)] 23 ∧ Box W g2 #[.int .i64 (0), .int .i64 (0)] 23 ∧ RingAt wr w.heap.size (12 + 4 * k + 2 + 2) W) ⟨hg1, hg2, hg, z1, z2, hW⟩ (fun ws hws => ?_)
        obtain ⟨hg1, hg2, hg, z1, z2, hW⟩ := hws
        obtain ⟨t', t0', t1', xr'⟩ := hW.box XR.out
        have xa' := hW.other XA.out (by omega)
        have xb' := hW.other XB.out (by omega)
        have hu' := hW.up HU.out (Nat.le_refl _)
        have hsz := hW.size
        obtain ⟨p10, p11⟩ := z1.two
        obtain ⟨p20, p21⟩ := z2.two
        have f10 := z1.frozen 0
        have f11 := z1.frozen 1
        have f20 := z2.frozen 0
        have f21 := z2.frozen 1
        have hg' := hg.symm
        clear hW
        go_upto_region 11 with fail
        refine forgetW (fun W => Up w W ∧ (∃ t : Int, 0 ≤ t ∧ t ≤ 12 + 4 * k + 2 + 2 ∧ Box W w.heap.size #[.slice sa sn sc, .int .i64 t] 101) ∧ Box W ga #[.int .i64 (a), .int .i64 (b), .int .i64 (c), .int .i64 (d)] 44 ∧ Box W gb #[.int .i64 (e), .int .i64 (f), .int .i64 (g), .int .i64 (h)] 44 ∧ Box W g1 #[.int .i64 (x), .int .i64 (y)] 23 ∧ Box W g2 #[.int .i64 (u), .int .i64 (v)] 23) ⟨by repeat (first | exact hu' | refine Up.setCell ?_ (by simp; omega) _), ⟨t', t0', t1', by repeat (first | exact xr' | refine Box.other ?_ (by omega) _ _)⟩, by repeat (first | exact xa' | refine Box.other ?_ (by omega) _ _), by repeat (first | exact xb' | refine Box.other ?_ (by omega) _ _),
          by simpa using (((z1.set 0 (.int .i64 x)).set 1 (.int .i64 y)).other hg 0 (.int .i64 u)).other hg 1 (.int .i64 v), by simpa using ((((z2.other hg' 0 (.int .i64 x)).other hg' 1 (.int .i64 y)).set 0 (.int .i64 u)).set 1 (.int .i64 v))⟩ (fun wu hwu => ?_)
        clear ca0 ca1 ca2 ca3 cb0 cb1 cb2 cb3 p10 p11 p20 p21 f10 f11 f20 f21 XR XA XB HU xr' xa' xb' hu' z1 z2 la lb lr t0 t1 t0' t1' hsz hg1 hg2
        obtain ⟨hu, xr, xa, xb, z1, z2⟩ := hwu
        obtain ⟨⟨ca0, ca1⟩, ca2, ca3⟩ := xa.four
        obtain ⟨⟨cb0, cb1⟩, cb2, cb3⟩ := xb.four
        obtain ⟨p10, p11⟩ := z1.two
        obtain ⟨p20, p21⟩ := z2.two
        have la := xa.lt
        have lb := xb.lt
        have l1 := z1.lt
        have l2 := z2.lt
        have HU := hide hu
        have XR := hide xr
        have XA := hide xa
        have XB := hide xb
        have Z1 := hide z1
        have Z2 := hide z2
        clear hu xr xa xb z1 z2
        obtain ⟨q, hq, k1, k2, k3, k4, k5, k6⟩ := HF.out x y u v ⟨⟨x0, x1⟩, y0, y1⟩ ⟨⟨u0, u1⟩, v0, v1⟩
        have KW := fun W => within_seg x y u v r W
        have K3 := fun W => clear_any (x, x, y, y) (u, u, v, v) r W
        have K4 := fun W => hits_any (x, x, y, y) (u, u, v, v) r W
        rw [hq] at KW
        rw [k5] at K3
        rw [k6] at K4
        have KW := hide KW
        simp only at K3 K4
        have K3 := hide K3
        have K4 := hide K4
        have S1 := hide k3
        have S2 := hide k4
        clear hq k3 k4 k5 k6
        cases q <;> simp at k1 k2
        all_goals
        go_upto_region 14 with (go_at_call 19; (with_reducible refine (KW.out _).mono ?_); intro _)
        refine wp_region_floatz (al := [(26, 14, #[.int .i64 (0), .int .i64 (0), .int .i64 (0), .int .i64 (0)], 44), (27, 15, #[.int .i64 (0), .int .i64 (0), .int .i64 (0), .int .i64 (0)], 44)]) (mv := fun _ => false) 25 [28, 29] [0, 1, 2, 3, 4, 5, 6, 7, 8, 9, 10, 11, 12, 13, 14, 15, 16, 17, 18, 19, 20, 21, 22, 23, 24, 25] (by kernel_rfl) (by kernel_rfl) rfl (fun _ => rfl) (fun _ _ _ _ h => h) (makes2 ⟨_, rfl, rfl, fun _ => rfl, fun _ _ => by simp [go_sem]⟩ ⟨_, rfl, rfl, fun _ => rfl, fun _ _ => by simp [go_sem]⟩) (cls_ext _) (by first | exact drew_in2 _ _ | exact drew_in _) (Nat.le_refl _) ?_
        simp only [withOps, List.filterMap_cons, List.filterMap_nil, List.getElem?_toArray, List.getElem?_cons_zero, List.getElem?_cons_succ, Option.map_some]
        (repeat (first | (apply walkF_pure (base := fun p : Ext => ext _ p) rfl rfl rfl (by kernel_rfl); · (intro px K hK; go_big_quiet_op; first | exact hK | (apply Exists.intro; refine ⟨fun _ => ?_, ?_⟩; (· ((go_at_call 69; with_reducible exact Gives.inFloat (of_any _ _ _)))); exact hK))) | (apply walkF_skip rfl; simp only [Act.put, List.setIfInBounds_toArray, List.set_cons_zero, List.set_cons_succ])))
        refine walkF_lazy (.agg #[.int .i64 (e), .int .i64 (u), .int .i64 (v), .int .i64 (h)]) rfl rfl (fun _ => by simp [go_sem]) ?_
        simp only [Act.put, List.setIfInBounds_toArray, List.set_cons_zero, List.set_cons_succ]
        refine walkF_nil (end2 (by decide) (fun n1 n2 W hn1 hn2 hn hW w1 w2 => ?_))
        simp only [Act.put, List.setIfInBounds_toArray, List.set_cons_zero, List.set_cons_succ]
        (try simp only [List.filterMap_cons, List.filterMap_nil, List.getElem?_toArray, List.getElem?_cons_zero, List.getElem?_cons_succ])
        refine tail_areas rfl rfl rfl rfl w1 w2 hn (fun W' y1 y2 hk hup => ?_)
        obtain ⟨pw, hpw⟩ := hW
        (try rw [ext_size] at hn1 hn2)
        have hur := HU.out.below.size
        refine forgetW (fun W => (Up w W ∧ (∃ t : Int, 0 ≤ t ∧ t ≤ 12 + 4 * k + 2 + 2 ∧ Box W w.heap.size #[.slice sa sn sc, .int .i64 t] 101) ∧ Box W ga #[.int .i64 (a), .int .i64 (b), .int .i64 (c), .int .i64 (d)] 44 ∧ Box W gb #[.int .i64 (e), .int .i64 (f), .int .i64 (g), .int .i64 (h)] 44 ∧ Box W g1 #[.int .i64 (x), .int .i64 (y)] 23 ∧ Box W g2 #[.int .i64 (u), .int .i64 (v)] 23) ∧ Box W n1 #[.int .i64 (x), .int .i64 (b), .int .i64 (c), .int .i64 (y)] 44 ∧ Box W n2 #[.int .i64 (e), .int .i64 (u), .int .i64 (v), .int .i64 (h)] 44) ⟨⟨hup _ (by omega) (by omega) (by rw [hpw]; exact HU.out.ext _),
            (by obtain ⟨t, q0, q1, q2⟩ := XR.out; exact ⟨t, q0, q1, hk _ _ _ (by have := q2.lt; omega) (by have := q2.lt; omega) (by rw [hpw]; exact q2.ext _)⟩),
            hk _ _ _ (by omega) (by omega) (by rw [hpw]; exact XA.out.ext _), hk _ _ _ (by omega) (by omega) (by rw [hpw]; exact XB.out.ext _), hk _ _ _ (by omega) (by omega) (by rw [hpw]; exact Z1.out.ext _), hk _ _ _ (by omega) (by omega) (by rw [hpw]; exact Z2.out.ext _)⟩, y1, y2⟩ (fun wv hwv => ?_)
        clear hpw hn1 hn2 hn ca0 ca1 ca2 ca3 cb0 cb1 cb2 cb3 p10 p11 p20 p21 hup hk w1 w2 y1 y2 hur la lb l1 l2 HU XR XA XB Z1 Z2
        obtain ⟨⟨hu, xr, xa, xb, z1, z2⟩, y1, y2⟩ := hwv
        obtain ⟨⟨ca0, ca1⟩, ca2, ca3⟩ := xa.four
        obtain ⟨⟨cb0, cb1⟩, cb2, cb3⟩ := xb.four
        obtain ⟨p10, p11⟩ := z1.two
        obtain ⟨p20, p21⟩ := z2.two
        obtain ⟨⟨m10, m11⟩, m12, m13⟩ := y1.four
        obtain ⟨⟨m20, m21⟩, m22, m23⟩ := y2.four
        have la := xa.lt
        have lb := xb.lt
        have l1 := z1.lt
        have l2 := z2.lt
        have l3 := y1.lt
        have l4 := y2.lt
        have HU := hide hu
        have XR := hide xr
        have XA := hide xa
        have XB := hide xb
        have Z1 := hide z1
        have Z2 := hide z2
        clear hu xr xa xb z1 z2 y1 y2
        have H1 := fun W => hits_any (x, b, c, y) (e, u, v, h) r W
        have H2 := fun W => clear_any (x, b, c, y) (e, u, v, h) r W
        first | rw [S1.out rfl] at H1 | rw [S1.out trivial] at H1 | skip
        first | rw [S2.out rfl] at H2 | rw [S2.out trivial] at H2 | skip
        simp only at H1 H2
        have H1 := hide H1
        have H2 := hide H2
        go_upto_region 17 with (first | (go_at_call 63; (with_reducible refine (H1.out _).mono ?_); intro _) | (go_at_call 65; (with_reducible refine (H2.out _).mono ?_); intro _))
        clear m10 m11 m12 m13 m20 m21 m22 m23 l3 l4 H1 H2 S1 S2
        refine wp_region_floatz (al := [(22, 16, #[.int .i64 (0), .int .i64 (0), .int .i64 (0), .int .i64 (0)], 44), (23, 17, #[.int .i64 (0), .int .i64 (0), .int .i64 (0), .int .i64 (0)], 44)]) (mv := fun _ => false) 21 [24, 25] [0, 1, 2, 3, 4, 5, 6, 7, 8, 9, 10, 11, 12, 13, 14, 15, 16, 17, 18, 19, 20, 21] (by kernel_rfl) (by kernel_rfl) rfl (fun _ => rfl) (fun _ _ _ _ h => h) (makes2 ⟨_, rfl, rfl, fun _ => rfl, fun _ _ => by simp [go_sem]⟩ ⟨_, rfl, rfl, fun _ => rfl, fun _ _ => by simp [go_sem]⟩) (cls_ext _) (by first | exact drew_in2 _ _ | exact drew_in _) (Nat.le_refl _) ?_
        simp only [withOps, List.filterMap_cons, List.filterMap_nil, List.getElem?_toArray, List.getElem?_cons_zero, List.getElem?_cons_succ, Option.map_some]
        (repeat (first | (apply walkF_pure (base := fun p : Ext => ext _ p) rfl rfl rfl (by kernel_rfl); · (intro px K hK; go_big_quiet_op; first | exact hK | (apply Exists.intro; refine ⟨fun _ => ?_, ?_⟩; (· ((go_at_call 69; with_reducible exact Gives.inFloat (of_any _ _ _)))); exact hK))) | (apply walkF_skip rfl; simp only [Act.put, List.setIfInBounds_toArray, List.set_cons_zero, List.set_cons_succ])))
        refine walkF_lazy (.agg #[.int .i64 (u), .int .i64 (u), .int .i64 (v), .int .i64 (v)]) rfl rfl (fun _ => by simp [go_sem]) ?_
        simp only [Act.put, List.setIfInBounds_toArray, List.set_cons_zero, List.set_cons_succ]
        refine walkF_nil (end2 (by decide) (fun o1 o2 W hn1 hn2 hn hW w1 w2 => ?_))
        simp only [Act.put, List.setIfInBounds_toArray, List.set_cons_zero, List.set_cons_succ]
        (try simp only [List.filterMap_cons, List.filterMap_nil, List.getElem?_toArray, List.getElem?_cons_zero, List.getElem?_cons_succ])
        refine tail_areas rfl rfl rfl rfl w1 w2 hn (fun W' y1 y2 hk hup => ?_)
        obtain ⟨pw, hpw⟩ := hW
        (try rw [ext_size] at hn1 hn2)
        have hur := HU.out.below.size
        refine forgetW (fun W => (Up w W ∧ (∃ t : Int, 0 ≤ t ∧ t ≤ 12 + 4 * k + 2 + 2 ∧ Box W w.heap.size #[.slice sa sn sc, .int .i64 t] 101) ∧ Box W ga #[.int .i64 (a), .int .i64 (b), .int .i64 (c), .int .i64 (d)] 44 ∧ Box W gb #[.int .i64 (e), .int .i64 (f), .int .i64 (g), .int .i64 (h)] 44 ∧ Box W g1 #[.int .i64 (x), .int .i64 (y)] 23 ∧ Box W g2 #[.int .i64 (u), .int .i64 (v)] 23) ∧ Box W o1 #[.int .i64 (x), .int .i64 (x), .int .i64 (y), .int .i64 (y)] 44 ∧ Box W o2 #[.int .i64 (u), .int .i64 (u), .int .i64 (v), .int .i64 (v)] 44) ⟨⟨hup _ (by omega) (by omega) (by rw [hpw]; exact HU.out.ext _),
            (by obtain ⟨t, q0, q1, q2⟩ := XR.out; exact ⟨t, q0, q1, hk _ _ _ (by have := q2.lt; omega) (by have := q2.lt; omega) (by rw [hpw]; exact q2.ext _)⟩),
            hk _ _ _ (by omega) (by omega) (by rw [hpw]; exact XA.out.ext _), hk _ _ _ (by omega) (by omega) (by rw [hpw]; exact XB.out.ext _), hk _ _ _ (by omega) (by omega) (by rw [hpw]; exact Z1.out.ext _), hk _ _ _ (by omega) (by omega) (by rw [hpw]; exact Z2.out.ext _)⟩, y1, y2⟩ (fun wv hwv => ?_)
        clear hpw hn1 hn2 hn ca0 ca1 ca2 ca3 cb0 cb1 cb2 cb3 p10 p11 p20 p21 hup hk w1 w2 y1 y2 hur la lb l1 l2 HU XR XA XB Z1 Z2
        obtain ⟨⟨hu, xr, xa, xb, z1, z2⟩, y1, y2⟩ := hwv
        obtain ⟨⟨ca0, ca1⟩, ca2, ca3⟩ := xa.four
        obtain ⟨⟨cb0, cb1⟩, cb2, cb3⟩ := xb.four
        obtain ⟨p10, p11⟩ := z1.two
        obtain ⟨p20, p21⟩ := z2.two
        obtain ⟨⟨m10, m11⟩, m12, m13⟩ := y1.four
        obtain ⟨⟨m20, m21⟩, m22, m23⟩ := y2.four
        have la := xa.lt
        have lb := xb.lt
        have l1 := z1.lt
        have l2 := z2.lt
        have l3 := y1.lt
        have l4 := y2.lt
        have HU := hide hu
        have XR := hide xr
        have XA := hide xa
        have XB := hide xb
        have Z1 := hide z1
        have Z2 := hide z2
        clear hu xr xa xb z1 z2 y1 y2
        go_wp2_with (first | (go_at_call 63; (with_reducible refine (K4.out _).mono ?_); intro _) | (go_at_call 65; (with_reducible refine (K3.out _).mono ?_); intro _))
        go_roundw
        case rel =>
          obtain ⟨tt, q0, q1, q2⟩ := XR.out
          exact ⟨k + 1, by omega, by go_num, hide ⟨tt, q0, by omega, (by repeat (first | exact HU.out | apply Up.ext)), (by repeat (first | exact q2 | apply Box.ext)), (by repeat (first | exact XA.out | apply Box.ext)), (by repeat (first | exact XB.out | apply Box.ext))⟩⟩
        case measure => simp [intOf]; omega
      · obtain rfl : k = 6 := by omega
        obtain ⟨t, t0, t1, hu, xr, xa, xb⟩ := HR.out
        obtain ⟨⟨ca0, ca1⟩, ca2, ca3⟩ := xa.four
        obtain ⟨⟨cb0, cb1⟩, cb2, cb3⟩ := xb.four
        have la := xa.lt
        have lb := xb.lt
        have HU := hide hu
        clear hu xr xa xb HR
        go_wp2
        ((first | with_reducible refine wp_region_ext2 (by kernel_rfl) (by kernel_rfl) ?_ | refine wp_region_ext (by kernel_rfl) (by kernel_rfl) ?_); (repeat (go_big_quiet_step ((first | (go_at_call 65; with_reducible exact Gives.inRegion (KC.out _)) | (go_at_call 65; with_reducible exact Gives.inRegion (KD.out _)) | (go_at_call 23; exact Gives.inRegion (awake_any _)))))); refine wpQuiet_nil ?_; intro _ hw'; obtain ⟨_, hw''⟩ := hw'; subst hw'')
        go_wp2
        go_ret
        exact ⟨rfl, (by repeat (first | exact HU.out | apply Up.ext))⟩

set_option maxRecDepth 100000 in
theorem cert_lifted (os : Os) (started : os.Started) (H : Type) (enc : TypeId × Value → H) :
    ReturnsInHanded {} Try.checked os 14 .any (Rows.spanCertainSpec.pre6 enc Try.prog Try.f14 Rows.spanCertainRow.domain false) (Rows.spanCertainSpec.post enc Try.prog Try.f14 false true false false) := by
  refine returnsInHanded_of_change (C := Try.checked) knob_own started (by kernel_rfl) Try.func14
    (ChangeSpec.witness6 (enc := enc) (C := Try.checked) false ⟨#[], #[.slice none 0 0, .int .i64 0], []⟩ 8 (by kernel_rfl) (by kernel_rfl) (by kernel_rfl) (by kernel_rfl)) ?_
  intro W base args ds gs before hval0 hW _ _
  have hval : ∀ (j : Nat) t v, Try.f14.params[j]? = some t → args[j]? = some v → Value.okWide Try.prog W .any base t v := hval0
  have hW' := hW
  obtain ⟨p, q, hA0, hV, rfl, _, _⟩ := hW
  have hA : DataW.TrodAll enc Try.prog W 0 (fun _ => true) true Try.f14.params.toList args.toList ds p := hA0
  rw [Try.params14] at hA hval
  obtain ⟨v0, vs0, d0, ds0, p0, q0, hargs, rfl, rfl, h0, r0⟩ := trodAll_cons hA
  obtain ⟨v1, vs1, d1, ds1, p1, q1, rfl, rfl, rfl, h1, r1⟩ := trodAll_cons r0
  obtain ⟨rfl, rfl, rfl⟩ := trodAll_nil r1
  obtain rfl : args = #[v0, v1] := by cases args; simp_all
  obtain ⟨rfl, rfl⟩ := trodVars_none hV
  have hlt0 : ∀ x ∈ p0, x.block < W.heap.size := fun x hx => hW'.lt x (by simp [hx])
  obtain ⟨hn0, shut0⟩ := open_nums (hval 0 55 v0 rfl rfl) h0 hlt0
  obtain ⟨a1, rfl, rfl, rfl, w1⟩ := open_int Try.underlying2 (hval 1 2 v1 rfl rfl) h1
  clear hA0 hval0
  simp only [List.append_nil] at hW'
  refine (cert_law v0 hn0 a1 (i64_bds w1) ).mono fun px => ?_
  exact ⟨_, rfl, post_of_below (pa := (p0 ++ (([] : List MemPlace) ++ []))) (pv := []) hW' (fun _ _ _ => (trodAll_cons_mk (shut_bool Try.underlying4 _) trodAll_mk0)) (fun sp hsp => (trodAll_cons_mk (shut0 _ sp (Up.below ⟨px, rfl⟩) (fun x hx => hsp x (by simp [hx]))) (trodAll_cons_mk (shut_int Try.underlying2 w1) trodAll_mk0))) (fun _ _ => rfl) (by simp)
    (Up.below ⟨px, rfl⟩) (ok_one (by kernel_rfl) rfl (okWide_bool_mk Try.underlying4 _))⟩

theorem cert_holds : Rows.SpanCertainSaid :=
  OpenClaim.holds_of_wide 14 Try.f14 rfl rfl rfl rfl rfl rfl rfl ⟨rfl, rfl, rfl, rfl, rfl⟩ rfl rfl rfl rfl rfl (by kernel_rfl) Try.func14 (by kernel_rfl)
    (of_decide_eq_true (by kernel_rfl)) (by unfold Func.isWrapper; rw [if_neg (by decide +kernel)]; exact ⟨rfl, rfl⟩)
    (fun os started H enc _ => cert_lifted os started H enc)
#print axioms cert_holds
end Go.Proofs.Ytfpdnmfklmgmfaa
