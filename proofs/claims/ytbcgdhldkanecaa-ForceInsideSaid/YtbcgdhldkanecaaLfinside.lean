/- ForceInside returns true for every input: in an area inside another, with a drift inside another, each enclosure lies inside. No conditions. -/
import Derived.Test.YtbcgdhldkanecaaPostn
import Derived.Test.YtbcgdhldkanecaaPostb
import Derived.Test.YtbcgdhldkanecaaShown
import Derived.Test.YtbcgdhldkanecaaSumF
import Derived.Test.YtbcgdhldkanecaaMade
import Derived.Test.YtbcgdhldkanecaaSumG
import Derived.Test.YtbcgdhldkanecaaPoint
import Derived.JoinedOf
import Derived.JoinedAt
import Derived.ChangeSame
import Derived.OpenShut
namespace Go.Proofs.Ytbcgdhldkanecaa
open Go.RowKit Go.ChangeShapes Go.WideShapes Go.ChangeAt Go.Joins Go.Shelf

set_option maxRecDepth 100000 in
set_option maxHeartbeats 100000000 in
theorem finside_law (v0 : Value) {w : World} (hN : Nums w v0) :
    Gives Try.prog 6 #[v0] w (.bool true) := by
  obtain ⟨sa, sn, sc, rfl⟩ := hN.form
  obtain ⟨B, hBe⟩ : ∃ B, w.heap.size = B := ⟨_, rfl⟩
  obtain ⟨W0, hW0⟩ : ∃ W0, w.alloc (.cells #[.slice sa sn sc, .int .i64 0] 81) = W0 := ⟨_, rfl⟩
  have hu0 : Up w W0 := by rw [← hW0]; exact (by repeat (first | with_reducible exact Up.refl _ | with_reducible apply Up.plus | apply Up.ext | apply Up.alloc | apply Up.drew | (refine Up.setCell ?_ (by simp; try omega) _)))
  have hb0 : Box W0 B #[.slice sa sn sc, .int .i64 0] 81 := by rw [← hW0]; exact Box.mk hBe
  have hBl : w.heap.size ≤ B := by omega
  have hl0 : W0.heap.size = B + 1 := by rw [← hW0, ← hBe]; simp
  have KS := hide (fun n V (hV : RingAt W0 B n V) (hn : n + 60 ≤ 100000) => skyof_at hN hBl hu0 hb0 hV hn)
  have KD := hide (fun n V (hV : RingAt W0 B n V) (hn : n + 6 ≤ 100000) => (driftof_r hN hBl).at hu0 hb0 hBl hV hn)
  have KA := hide (fun n V (hV : RingAt W0 B n V) (hn : n + 6 ≤ 100000) => (areaof_r hN hBl (most := 2200) (wide := 200) (by omega) (by omega) (by omega) (by omega)).at hu0 hb0 hBl hV hn)
  have KR := hide (fun n V (hV : RingAt W0 B n V) (hn : n + 1 ≤ 100000) => (range_r hN hBl (lo := 0) (hi := 60) (by omega) (by omega) (by omega)).at hu0 hb0 hBl hV hn)
  have KLD := hide (fun (l1 l2 h1 h2 g : Int) (hl : -100000000000 ≤ l1 ∧ l1 ≤ l2 ∧ l2 ≤ 100000000000) (hh : -100000000000 ≤ h1 ∧ h1 ≤ h2 ∧ h2 ≤ 100000000000) (hg : 0 ≤ g ∧ g ≤ 100000) => lessdrift_r hN hBl hl hh hg)
  have KLA := hide (fun (a b c d : Int) (a0 : -100000000000 ≤ a) (ab : a ≤ b) (b1 : b ≤ 100000000000) (c0 : -100000000000 ≤ c) (cd : c ≤ d) (d1 : d ≤ 100000000000) => lessarea_r hN hBl a0 ab b1 c0 cd d1)
  have HB0 := hide hb0
  have HR := hide (RingAt.start (n := 0) hb0 (by omega) (by omega))
  have HU := hide (And.intro hu0 hBl)
  clear hN hb0 hu0 hBl
  (unfold Gives; go_enter Try.func6, Try.ntmps6)
  go_wp2_with fail
  go_at_call 10
  refine (newring_any _ _ _ _).mono ?_
  rintro _ _ ⟨rfl, rfl⟩
  rw [hW0, hBe]
  clear hW0
  go_wp2_with fail
  go_at_call 19
  refine (KS.out _ _ HR.out (by omega)).mono ?_
  rintro _ V1 ⟨_, s, rfl, ⟨vb, vs, vc, rfl, hbod, hhome, _, _⟩, hsm, hR1, hg1⟩
  obtain ⟨ba, bc, rfl, hbl⟩ := hbod
  have hbod : Bods (fun b => W0.heap.size ≤ b) V1 (.slice ba s.bodies.length bc) s.bodies := ⟨ba, bc, rfl, hbl⟩
  clear hbl
  go_wp2_with fail
  go_at_call 20
  refine (KD.out _ _ hR1 (by omega)).mono ?_
  rintro _ V2 ⟨_, rfl, ⟨l1, l2, h1, h2, g, hl, hh, hg, rfl⟩, hR2, hg2⟩
  go_wp2_with fail
  go_at_call 21
  refine (KA.out _ _ hR2 (by omega)).mono ?_
  rintro _ V3 ⟨_, rfl, ⟨x0, x1, y0, y1, hx, hy, rfl⟩, hR3, hg3⟩
  go_wp2_with fail
  go_at_call 12
  refine (KR.out _ _ hR3 (by omega)).mono ?_
  rintro _ V4 ⟨_, rfl, ⟨t, t0, t1, rfl⟩, hR4, hg4⟩
  have hk : Keeps (fun b => W0.heap.size ≤ b) V1 V4 := (((Keeps.refl _ V1).turn hg2 (by intro b e; cases e; omega)).turn hg3 (by intro b e; cases e; omega)).turn hg4 (by intro b e; cases e; omega)
  have hbod4 := Bods.keeps hbod hk
  have hBV : B + 1 ≤ V4.heap.size := by have := hR4.size; omega
  obtain ⟨N, hNN⟩ : ∃ N, V4.heap.size = N := ⟨_, rfl⟩
  clear hR1 hR2 hR3 hg1 hg2 hg3 hg4 hbod KS KD KA KR HR hk
  go_wp2_with fail
  refine forgetW (fun W5 => RingAt W0 B 73 W5 ∧ Box W5 N #[.slice ba s.bodies.length bc, .int .i64 s.home] 34 ∧ Box W5 (N + 1) #[.int .i64 (l1), .int .i64 (l2), .int .i64 (h1), .int .i64 (h2), .int .i64 (g)] 54 ∧ Box W5 (N + 1 + 1) #[.int .i64 (x0), .int .i64 (x1), .int .i64 (y0), .int .i64 (y1)] 38 ∧ Bods (fun b => W0.heap.size ≤ b) W5 (.slice ba s.bodies.length bc) s.bodies)
    ⟨(((hR4.alloc _).alloc _).alloc _).mono (by omega), by rw [← hNN]; exact (by repeat (first | exact Box.mk rfl | (refine Box.mk ?_; simp; done) | apply Box.ext | apply Box.drew | apply Box.alloc | apply Box.two1 | (refine Box.other ?_ (by omega) _ _))), by rw [← hNN]; exact (by repeat (first | exact Box.mk rfl | (refine Box.mk ?_; simp; done) | apply Box.ext | apply Box.drew | apply Box.alloc | apply Box.two1 | (refine Box.other ?_ (by omega) _ _))), by rw [← hNN]; exact (by repeat (first | exact Box.mk rfl | (refine Box.mk ?_; simp; done) | apply Box.ext | apply Box.drew | apply Box.alloc | apply Box.two1 | (refine Box.other ?_ (by omega) _ _))), hbod4.keeps (Up.keeps (by repeat (first | with_reducible exact Up.refl _ | with_reducible apply Up.plus | apply Up.ext | apply Up.alloc | apply Up.drew | (refine Up.setCell ?_ (by simp; try omega) _))) _)⟩ ?_
  rintro W5 ⟨hR5, bw, bd, ba5, hbod5⟩
  clear hR4 hbod4
  have hBN : B + 1 ≤ N := by omega
  clear hNN hBV
  obtain ⟨tr, tr0, tr1, hbr⟩ := hR5.box HB0.out
  have hu5 := hR5.up HU.out.1 HU.out.2
  have hl5 := ba5.lt
  have hS := hide (And.intro hR5 (And.intro bw (And.intro bd (And.intro ba5 (And.intro hbod5 (And.intro hbr hu5))))))
  have cd0 := bd.cell 0 rfl
  have cd1 := bd.cell 1 rfl
  have cd2 := bd.cell 2 rfl
  have cd3 := bd.cell 3 rfl
  have cd4 := bd.cell 4 rfl
  have ld := bd.lt
  have ca0 := ba5.cell 0 rfl
  have ca1 := ba5.cell 1 rfl
  have ca2 := ba5.cell 2 rfl
  have ca3 := ba5.cell 3 rfl
  have nd : N + 1 ≠ B := by omega
  have na : N + 1 + 1 ≠ B := by omega
  clear hR5 bw bd ba5 hbod5 hbr hu5
  refine wp_region_float (al := [(6, 8, #[.int .i64 (0), .int .i64 (0), .int .i64 (0), .int .i64 (0), .int .i64 (0)], 54), (7, 9, #[.int .i64 (0), .int .i64 (0), .int .i64 (0), .int .i64 (0)], 38)]) (mv := fun k => k == 2 || k == 5) [8, 9] [0, 1, 3, 4, 2, 5] (by kernel_rfl) (by kernel_rfl) (makes2 ⟨_, rfl, rfl, fun _ => rfl, fun _ _ => by simp [go_sem]⟩ ⟨_, rfl, rfl, fun _ => rfl, fun _ _ => by simp [go_sem]⟩) (cls_ring _ B tr) (ringAt_drew hS.out.2.2.2.2.2.1 tr0 (Int.le_refl _)) (Nat.le_refl _) ?_
  simp only [withOps, List.filterMap_cons, List.filterMap_nil, List.getElem?_toArray, List.getElem?_cons_zero, List.getElem?_cons_succ, Option.map_some]
  (repeat (first | (apply walkF_pure (base := ringBase _ _) rfl rfl rfl (by kernel_rfl); · (rintro ⟨tx, px⟩ K hK; unfold ringBase; dsimp only; go_big_quiet_op; first | exact hK | (apply Exists.intro; refine ⟨fun _ => ?_, ?_⟩; (· (fail)); exact hK))) | (apply walkF_skip rfl; simp only [Act.put, List.setIfInBounds_toArray, List.set_cons_zero, List.set_cons_succ])))
  refine walkF_call _ _ (ring_call (KLD.out l1 l2 h1 h2 g (by omega) (by omega) (by omega)) hS.out.2.2.2.2.2.2 hS.out.2.2.2.2.2.1 HU.out.2 (by omega) (by omega)) (fun _ _ => cls_ring _ _ _) rfl rfl (fun _ => by simp [go_sem]) ?_
  rintro _ ⟨ll1, ll2, lh1, lh2, lg, hll, hlh, hlg, rfl⟩
  simp only [Act.put, List.setIfInBounds_toArray, List.set_cons_zero, List.set_cons_succ]
  refine walkF_call _ _ (ring_call (KLA.out x0 x1 y0 y1 (by omega) (by omega) (by omega) (by omega) (by omega) (by omega)) hS.out.2.2.2.2.2.2 hS.out.2.2.2.2.2.1 HU.out.2 (by omega) (by omega)) (fun _ _ => cls_ring _ _ _) rfl rfl (fun _ => by simp [go_sem]) ?_
  rintro _ ⟨bx0, bx1, by0, by1, hbx, hby, rfl⟩
  simp only [Act.put, List.setIfInBounds_toArray, List.set_cons_zero, List.set_cons_succ]
  refine walkF_nil (end2 (by decide) (fun T8 T9 W6 hg1 hg2 hg12 hW6 z1 z2 => ?_))
  simp only [Act.put, List.setIfInBounds_toArray, List.set_cons_zero, List.set_cons_succ]
  (try simp only [List.filterMap_cons, List.filterMap_nil, List.getElem?_toArray, List.getElem?_cons_zero, List.getElem?_cons_succ])
  have hW5l : W5.heap.size ≤ T8 := hg1
  have hW5m : W5.heap.size ≤ T9 := hg2
  have hZ := hide (And.intro hW6 (And.intro z1 z2))
  have e0 := z1.cell 0 rfl
  have fe0 := z1.frozen 0
  have e1 := z1.cell 1 rfl
  have fe1 := z1.frozen 1
  have e2 := z1.cell 2 rfl
  have fe2 := z1.frozen 2
  have e3 := z1.cell 3 rfl
  have fe3 := z1.frozen 3
  have e4 := z1.cell 4 rfl
  have fe4 := z1.frozen 4
  have le := z1.lt
  have d0 := z2.cell 0 rfl
  have fd0 := z2.frozen 0
  have d1 := z2.cell 1 rfl
  have fd1 := z2.frozen 1
  have d2 := z2.cell 2 rfl
  have fd2 := z2.frozen 2
  have d3 := z2.cell 3 rfl
  have fd3 := z2.frozen 3
  have ld := z2.lt
  clear hW6 z1 z2 cd0 cd1 cd2 cd3 cd4 ld ca0 ca1 ca2 ca3 hg1 hg2
  have hg21 : T9 ≠ T8 := fun e => hg12 e.symm
  go_wp2_with fail
  have hW6 := hZ.out.1
  have hWN : N + 1 + 1 < W5.heap.size := hS.out.2.2.2.1.lt
  have bwW := hW6.other hS.out.2.1 (by omega)
  have bdW := hW6.other hS.out.2.2.1 nd
  have baW := hW6.other hS.out.2.2.2.1 na
  have hbK := Bods.mono (K' := fun b => W0.heap.size ≤ b ∧ b < W5.heap.size) hS.out.2.2.2.2.1 fun b hb hK => ⟨hK, hb⟩
  have hKe : Keeps (fun b => W0.heap.size ≤ b ∧ b < W5.heap.size) W5 W6 := by
    obtain ⟨t', p, _, _, rfl⟩ := hW6
    exact ((Keeps.refl _ W5).set (by omega) _ _).ext p
  have huW6 := hW6.up hS.out.2.2.2.2.2.2 HU.out.2
  have hww := hS.out.2.2.2.2.2.2.below.size
  refine forgetW (fun W7 => Up w W7 ∧ Box W7 N #[.slice ba s.bodies.length bc, .int .i64 s.home] 34 ∧ Box W7 (N + 1) #[.int .i64 (l1), .int .i64 (l2), .int .i64 (h1), .int .i64 (h2), .int .i64 (g)] 54 ∧ Box W7 (N + 1 + 1) #[.int .i64 (x0), .int .i64 (x1), .int .i64 (y0), .int .i64 (y1)] 38 ∧ Box W7 T8 #[.int .i64 (ll1), .int .i64 (ll2), .int .i64 (lh1), .int .i64 (lh2), .int .i64 (lg)] 54 ∧ Box W7 T9 #[.int .i64 (bx0), .int .i64 (bx1), .int .i64 (by0), .int .i64 (by1)] 38 ∧ Bods (fun b => W0.heap.size ≤ b ∧ b < W5.heap.size) W7 (.slice ba s.bodies.length bc) s.bodies)
    ⟨?_, ?_, ?_, ?_, ?_, ?_, ?_⟩ ?_
  · exact (by repeat (first | with_reducible exact huW6 | (with_reducible refine Up.setCell ?_ (by simp only; omega) _)))
  · exact (by repeat (first | with_reducible exact bwW | (with_reducible refine Box.other ?_ (by omega) _ _)))
  · exact (by repeat (first | with_reducible exact bdW | (with_reducible refine Box.other ?_ (by omega) _ _)))
  · exact (by repeat (first | with_reducible exact baW | (with_reducible refine Box.other ?_ (by omega) _ _)))
  · exact (by (repeat (first | (with_reducible refine Box.other ?_ hg12 _ _))); exact (((((hZ.out.2.1.set 0 (.int .i64 ll1)).set 1 (.int .i64 ll2)).set 2 (.int .i64 lh1)).set 3 (.int .i64 lh2)).set 4 (.int .i64 lg)))
  · exact ((((((((((hZ.out.2.2.other hg21 0 (.int .i64 ll1)).other hg21 1 (.int .i64 ll2)).other hg21 2 (.int .i64 lh1)).other hg21 3 (.int .i64 lh2)).other hg21 4 (.int .i64 lg)).set 0 (.int .i64 bx0)).set 1 (.int .i64 bx1)).set 2 (.int .i64 by0)).set 3 (.int .i64 by1)))
  · exact Bods.keeps hbK (by repeat (first | with_reducible exact hKe | (with_reducible refine Keeps.set ?_ (by omega) _ _)))
  rintro W7 ⟨hu7, bw, bd, ba7, bl, bb, hbod⟩
  clear hZ hS hW6 bwW bdW baW hbK hKe huW6 e0 fe0 e1 fe1 e2 fe2 e3 fe3 e4 fe4 le d0 fd0 d1 fd1 d2 fd2 d3 fd3 ld KLD KLA HB0
  -- the plain values
  obtain ⟨OA, OB, LA, LB, HA, HBv, PAf, PBf, E1, E2, E3, F1, F2, F3, E4, F4, S3, S1, S2, S4⟩ := inside_facts hsm (t := t) (by omega) (l := (l1, l2)) (h := (h1, h2)) (g := g) hl hh (by omega) (ll := (ll1, ll2)) (lh := (lh1, lh2)) (lg := lg) (by simp only; omega) (by simp only; omega) (by omega) (a := (x0, x1, y0, y1)) (b := (bx0, bx1, by0, by1)) ⟨⟨by simp only [arX]; omega, by simp only [arX]; omega, by simp only [arX]; omega⟩, by simp only [arY]; omega, by simp only [arY]; omega, by simp only [arY]; omega⟩ ⟨⟨by simp only [arX]; omega, by simp only [arX]; omega, by simp only [arX]; omega⟩, by simp only [arY]; omega, by simp only [arY]; omega, by simp only [arY]; omega⟩
  have KOA := hide (fun W' (hu : Up W7 W') => over_at (hbod.keeps (hu.keeps _)) hhome E3)
  have KOB := hide (fun W' (hu : Up W7 W') => over_at (hbod.keeps (hu.keeps _)) hhome F3)
  have KLA := hide (fun W' (hu : Up W7 W') => light_at (hbod.keeps (hu.keeps _)) hhome E1)
  have KLB := hide (fun W' (hu : Up W7 W') => light_at (hbod.keeps (hu.keeps _)) hhome F1)
  have KHA := hide (fun W' (hu : Up W7 W') => heat_at (hbod.keeps (hu.keeps _)) hhome E2)
  have KHB := hide (fun W' (hu : Up W7 W') => heat_at (hbod.keeps (hu.keeps _)) hhome F2)
  have K1A := hide (fun (i : Nat) (hi : i < s.bodies.length) W' (hu : Up W7 W') => one_at (hbod.keeps (hu.keeps _)) hhome (E4 i hi))
  have K1B := hide (fun (i : Nat) (hi : i < s.bodies.length) W' (hu : Up W7 W') => one_at (hbod.keeps (hu.keeps _)) hhome (F4 i hi))
  have KI3 := hide (fun W => inside_at S3 W)
  have KI1 := hide (fun W => inside_at S1 W)
  have KI2 := hide (fun W => inside_at S2 W)
  have KI4 := hide (fun (i : Nat) (hi : i < s.bodies.length) W => inside_at (S4 i hi) W)
  have HX := hide (And.intro bw (And.intro bd (And.intro ba7 (And.intro bl (And.intro bb hu7)))))
  have hn3 := hsm.num
  have HN := hide (And.intro hsm hhome)
  clear E1 E2 E3 E4 F1 F2 F3 F4 S1 S2 S3 S4 bw bd ba7 bl bb hbod hhome hu7 hsm
  go_loopw [10] (fun s10 wr => ∃ k : Nat, s10 = .int .i64 k ∧ k ≤ s.bodies.length ∧ Hid (Up W7 wr)) (fun q _ => s.bodies.length - (intOf q).toNat)
  case atStart => exact ⟨0, by go_num, by omega, hide (Up.refl _)⟩
  case round =>
    obtain ⟨k, rfl, hk, hu⟩ := hrel
    have bwr := HX.out.1.up hu.out
    have cw0 := bwr.cell 0 rfl
    have cw1 := bwr.cell 1 rfl
    have lcw := bwr.lt
    clear bwr
    by_cases hlt : k < s.bodies.length
    · have hkb : decide ((k : Int) < s.bodies.length) = true := by simp; omega
      have b1 := HX.out.2.2.1.up hu.out
      have b2 := HX.out.2.2.2.2.1.up hu.out
      have ca0 := b1.cell 0 rfl
      have ca1 := b1.cell 1 rfl
      have ca2 := b1.cell 2 rfl
      have ca3 := b1.cell 3 rfl
      have lca := b1.lt
      have cb0 := b2.cell 0 rfl
      have cb1 := b2.cell 1 rfl
      have cb2 := b2.cell 2 rfl
      have cb3 := b2.cell 3 rfl
      have lcb := b2.lt
      have KA1 := hide (K1A.out k hlt)
      have KB1 := hide (K1B.out k hlt)
      have KI := hide (KI4.out k hlt)
      clear b1 b2
      go_wp2_with fail
      go_at_call 14
      refine (KB1.out _ (by repeat (first | with_reducible exact hu.out | with_reducible exact Up.refl _ | apply Up.ext | apply Up.alloc | apply Up.drew | (refine Up.setCell ?_ (by simp [World.setCell]; try omega) _)))).mono ?_
      intro p1
      go_wp2_with fail
      go_at_call 14
      refine (KA1.out _ (by repeat (first | with_reducible exact hu.out | with_reducible exact Up.refl _ | apply Up.ext | apply Up.alloc | apply Up.drew | (refine Up.setCell ?_ (by simp [World.setCell]; try omega) _)))).mono ?_
      intro p2
      go_wp2_with (go_at_call 16; (with_reducible refine (KI.out _).mono ?_); intro _)
      go_roundw
      case rel => exact ⟨k + 1, by go_num, by omega, hide (by repeat (first | with_reducible exact hu.out | with_reducible exact Up.refl _ | apply Up.ext | apply Up.alloc | apply Up.drew | (refine Up.setCell ?_ (by simp [World.setCell]; try omega) _)))⟩
      case measure => simp [intOf]; omega
    · have hkb : decide ((k : Int) < s.bodies.length) = false := by simp; omega
      clear K1A K1B KI4
      have bxl := HX.out.2.2.2.1.up hu.out
      have cl0 := bxl.cell 0 rfl
      have cl1 := bxl.cell 1 rfl
      have cl2 := bxl.cell 2 rfl
      have cl3 := bxl.cell 3 rfl
      have cl4 := bxl.cell 4 rfl
      have lcl := bxl.lt
      clear bxl
      have bxb := HX.out.2.2.2.2.1.up hu.out
      have cb0 := bxb.cell 0 rfl
      have cb1 := bxb.cell 1 rfl
      have cb2 := bxb.cell 2 rfl
      have cb3 := bxb.cell 3 rfl
      have lcb := bxb.lt
      clear bxb
      go_wp2_with fail
      go_at_call 22
      refine (KOB.out _ hu.out).mono ?_
      intro p0
      clear cl0 cl1 cl2 cl3 cl4 lcl cb0 cb1 cb2 cb3 lcb
      have bxd := HX.out.2.1.up hu.out
      have cd0 := bxd.cell 0 rfl
      have cd1 := bxd.cell 1 rfl
      have cd2 := bxd.cell 2 rfl
      have cd3 := bxd.cell 3 rfl
      have cd4 := bxd.cell 4 rfl
      have lcd := bxd.lt
      clear bxd
      have bxa := HX.out.2.2.1.up hu.out
      have ca0 := bxa.cell 0 rfl
      have ca1 := bxa.cell 1 rfl
      have ca2 := bxa.cell 2 rfl
      have ca3 := bxa.cell 3 rfl
      have lca := bxa.lt
      clear bxa
      go_wp2_with fail
      go_at_call 22
      obtain ⟨R0, hR0⟩ : ∃ T, wr.heap.size + p0.os.size = T := ⟨_, rfl⟩
      rw [hR0]
      refine forgetC (fun Y => Up W7 Y ∧ Box Y R0 #[.int .i64 OB.1, .int .i64 OB.2.1, .int .i64 OB.2.2.1, .int .i64 OB.2.2.2] 38) ⟨(by repeat (first | with_reducible exact hu.out | with_reducible apply Up.ext | with_reducible apply Up.alloc | with_reducible apply Up.drew | (with_reducible refine Up.setCell ?_ (by simp only; omega) _))), by rw [← hR0]; exact (by repeat (first | exact Box.mk rfl | (refine Box.mk ?_; simp; done) | apply Box.ext | apply Box.alloc))⟩ ?_
      rintro Y1 ⟨hY1, nR0b⟩
      have hR0l : W7.heap.size ≤ R0 := by have := hu.out.below.size; omega
      clear cw0 cw1 lcw cd0 cd1 cd2 cd3 cd4 lcd ca0 ca1 ca2 ca3 lca hR0 
      replace nR0b := hide nR0b
      have hR0b := nR0b
      clear nR0b
      replace hY1 := hide hY1
      refine (KOA.out _ hY1.out).mono ?_
      intro p1
      have bxw := HX.out.1.up hY1.out
      have cw0 := bxw.cell 0 rfl
      have cw1 := bxw.cell 1 rfl
      have lcw := bxw.lt
      clear bxw
      have bxl := HX.out.2.2.2.1.up hY1.out
      have cl0 := bxl.cell 0 rfl
      have cl1 := bxl.cell 1 rfl
      have cl2 := bxl.cell 2 rfl
      have cl3 := bxl.cell 3 rfl
      have cl4 := bxl.cell 4 rfl
      have lcl := bxl.lt
      clear bxl
      have bxb := HX.out.2.2.2.2.1.up hY1.out
      have cb0 := bxb.cell 0 rfl
      have cb1 := bxb.cell 1 rfl
      have cb2 := bxb.cell 2 rfl
      have cb3 := bxb.cell 3 rfl
      have lcb := bxb.lt
      clear bxb
      go_wp2_with fail
      go_at_call 31
      obtain ⟨R1, hR1⟩ : ∃ T, Y1.heap.size + p1.os.size = T := ⟨_, rfl⟩
      rw [hR1]
      refine forgetC (fun Y => Up W7 Y ∧ Box Y R0 #[.int .i64 OB.1, .int .i64 OB.2.1, .int .i64 OB.2.2.1, .int .i64 OB.2.2.2] 38 ∧ Box Y R1 #[.int .i64 OA.1, .int .i64 OA.2.1, .int .i64 OA.2.2.1, .int .i64 OA.2.2.2] 38) ⟨(by repeat (first | with_reducible exact hY1.out | with_reducible apply Up.ext | with_reducible apply Up.alloc | with_reducible apply Up.drew | (with_reducible refine Up.setCell ?_ (by simp only; omega) _))), (by repeat (first | with_reducible exact hR0b.out | with_reducible apply Box.ext | with_reducible apply Box.alloc | with_reducible apply Box.drew | (with_reducible refine Box.other ?_ (by omega) _ _))), by rw [← hR1]; exact (by repeat (first | exact Box.mk rfl | (refine Box.mk ?_; simp; done) | apply Box.ext | apply Box.alloc))⟩ ?_
      rintro Y2 ⟨hY2, nR0b, nR1b⟩
      have hR1l : W7.heap.size ≤ R1 := by have := hY1.out.below.size; omega
      have dR0R1 : R0 ≠ R1 := by have := hR0b.out.lt; omega
      clear cw0 cw1 lcw cl0 cl1 cl2 cl3 cl4 lcl cb0 cb1 cb2 cb3 lcb hR1 hR0b
      replace nR0b := hide nR0b
      have hR0b := nR0b
      clear nR0b
      replace nR1b := hide nR1b
      have hR1b := nR1b
      clear nR1b
      replace hY2 := hide hY2
      refine (KLB.out _ hY2.out).mono ?_
      intro p2
      have bxw := HX.out.1.up hY2.out
      have cw0 := bxw.cell 0 rfl
      have cw1 := bxw.cell 1 rfl
      have lcw := bxw.lt
      clear bxw
      have bxd := HX.out.2.1.up hY2.out
      have cd0 := bxd.cell 0 rfl
      have cd1 := bxd.cell 1 rfl
      have cd2 := bxd.cell 2 rfl
      have cd3 := bxd.cell 3 rfl
      have cd4 := bxd.cell 4 rfl
      have lcd := bxd.lt
      clear bxd
      have bxa := HX.out.2.2.1.up hY2.out
      have ca0 := bxa.cell 0 rfl
      have ca1 := bxa.cell 1 rfl
      have ca2 := bxa.cell 2 rfl
      have ca3 := bxa.cell 3 rfl
      have lca := bxa.lt
      clear bxa
      go_wp2_with fail
      go_at_call 31
      obtain ⟨R2, hR2⟩ : ∃ T, Y2.heap.size + p2.os.size = T := ⟨_, rfl⟩
      rw [hR2]
      refine forgetC (fun Y => Up W7 Y ∧ Box Y R0 #[.int .i64 OB.1, .int .i64 OB.2.1, .int .i64 OB.2.2.1, .int .i64 OB.2.2.2] 38 ∧ Box Y R1 #[.int .i64 OA.1, .int .i64 OA.2.1, .int .i64 OA.2.2.1, .int .i64 OA.2.2.2] 38 ∧ Box Y R2 #[.int .i64 LB.1, .int .i64 LB.2.1, .int .i64 LB.2.2.1, .int .i64 LB.2.2.2] 38) ⟨(by repeat (first | with_reducible exact hY2.out | with_reducible apply Up.ext | with_reducible apply Up.alloc | with_reducible apply Up.drew | (with_reducible refine Up.setCell ?_ (by simp only; omega) _))), (by repeat (first | with_reducible exact hR0b.out | with_reducible apply Box.ext | with_reducible apply Box.alloc | with_reducible apply Box.drew | (with_reducible refine Box.other ?_ (by omega) _ _))), (by repeat (first | with_reducible exact hR1b.out | with_reducible apply Box.ext | with_reducible apply Box.alloc | with_reducible apply Box.drew | (with_reducible refine Box.other ?_ (by omega) _ _))), by rw [← hR2]; exact (by repeat (first | exact Box.mk rfl | (refine Box.mk ?_; simp; done) | apply Box.ext | apply Box.alloc))⟩ ?_
      rintro Y3 ⟨hY3, nR0b, nR1b, nR2b⟩
      have hR2l : W7.heap.size ≤ R2 := by have := hY2.out.below.size; omega
      have dR0R2 : R0 ≠ R2 := by have := hR0b.out.lt; omega
      have dR1R2 : R1 ≠ R2 := by have := hR1b.out.lt; omega
      clear cw0 cw1 lcw cd0 cd1 cd2 cd3 cd4 lcd ca0 ca1 ca2 ca3 lca hR2 hR0b hR1b
      replace nR0b := hide nR0b
      have hR0b := nR0b
      clear nR0b
      replace nR1b := hide nR1b
      have hR1b := nR1b
      clear nR1b
      replace nR2b := hide nR2b
      have hR2b := nR2b
      clear nR2b
      replace hY3 := hide hY3
      refine (KLA.out _ hY3.out).mono ?_
      intro p3
      have bxw := HX.out.1.up hY3.out
      have cw0 := bxw.cell 0 rfl
      have cw1 := bxw.cell 1 rfl
      have lcw := bxw.lt
      clear bxw
      have bxl := HX.out.2.2.2.1.up hY3.out
      have cl0 := bxl.cell 0 rfl
      have cl1 := bxl.cell 1 rfl
      have cl2 := bxl.cell 2 rfl
      have cl3 := bxl.cell 3 rfl
      have cl4 := bxl.cell 4 rfl
      have lcl := bxl.lt
      clear bxl
      have bxb := HX.out.2.2.2.2.1.up hY3.out
      have cb0 := bxb.cell 0 rfl
      have cb1 := bxb.cell 1 rfl
      have cb2 := bxb.cell 2 rfl
      have cb3 := bxb.cell 3 rfl
      have lcb := bxb.lt
      clear bxb
      have r00 := hR0b.out.cell 0 rfl
      have r01 := hR0b.out.cell 1 rfl
      have r02 := hR0b.out.cell 2 rfl
      have r03 := hR0b.out.cell 3 rfl
      have lr0 := hR0b.out.lt
      have r10 := hR1b.out.cell 0 rfl
      have r11 := hR1b.out.cell 1 rfl
      have r12 := hR1b.out.cell 2 rfl
      have r13 := hR1b.out.cell 3 rfl
      have lr1 := hR1b.out.lt
      have r20 := hR2b.out.cell 0 rfl
      have r21 := hR2b.out.cell 1 rfl
      have r22 := hR2b.out.cell 2 rfl
      have r23 := hR2b.out.cell 3 rfl
      have lr2 := hR2b.out.lt
      go_wp2_with (first | (go_at_call 16; (with_reducible refine (KI3.out _).mono ?_); intro _) | (go_at_call 16; (with_reducible refine (KI1.out _).mono ?_); intro _))
      go_at_call 32
      obtain ⟨R3, hR3⟩ : ∃ T, Y3.heap.size + p3.os.size = T := ⟨_, rfl⟩
      rw [hR3]
      refine forgetC (fun Y => Up W7 Y ∧ Box Y R0 #[.int .i64 OB.1, .int .i64 OB.2.1, .int .i64 OB.2.2.1, .int .i64 OB.2.2.2] 38 ∧ Box Y R1 #[.int .i64 OA.1, .int .i64 OA.2.1, .int .i64 OA.2.2.1, .int .i64 OA.2.2.2] 38 ∧ Box Y R2 #[.int .i64 LB.1, .int .i64 LB.2.1, .int .i64 LB.2.2.1, .int .i64 LB.2.2.2] 38 ∧ Box Y R3 #[.int .i64 LA.1, .int .i64 LA.2.1, .int .i64 LA.2.2.1, .int .i64 LA.2.2.2] 38) ⟨(by repeat (first | with_reducible exact hY3.out | with_reducible apply Up.ext | with_reducible apply Up.alloc | with_reducible apply Up.drew | (with_reducible refine Up.setCell ?_ (by simp only; omega) _))), (by repeat (first | with_reducible exact hR0b.out | with_reducible apply Box.ext | with_reducible apply Box.alloc | with_reducible apply Box.drew | (with_reducible refine Box.other ?_ (by omega) _ _))), (by repeat (first | with_reducible exact hR1b.out | with_reducible apply Box.ext | with_reducible apply Box.alloc | with_reducible apply Box.drew | (with_reducible refine Box.other ?_ (by omega) _ _))), (by repeat (first | with_reducible exact hR2b.out | with_reducible apply Box.ext | with_reducible apply Box.alloc | with_reducible apply Box.drew | (with_reducible refine Box.other ?_ (by omega) _ _))), by rw [← hR3]; exact (by repeat (first | exact Box.mk rfl | (refine Box.mk ?_; simp; done) | apply Box.ext | apply Box.alloc))⟩ ?_
      rintro Y4 ⟨hY4, nR0b, nR1b, nR2b, nR3b⟩
      have hR3l : W7.heap.size ≤ R3 := by have := hY3.out.below.size; omega
      have dR0R3 : R0 ≠ R3 := by have := hR0b.out.lt; omega
      have dR1R3 : R1 ≠ R3 := by have := hR1b.out.lt; omega
      have dR2R3 : R2 ≠ R3 := by have := hR2b.out.lt; omega
      clear cw0 cw1 lcw cl0 cl1 cl2 cl3 cl4 lcl cb0 cb1 cb2 cb3 lcb hR3 hR0b hR1b hR2b
      clear r00 r01 r02 r03 r10 r11 r12 r13 r20 r21 r22 r23 lr0 lr1 lr2
      replace nR0b := hide nR0b
      have hR0b := nR0b
      clear nR0b
      replace nR1b := hide nR1b
      have hR1b := nR1b
      clear nR1b
      replace nR2b := hide nR2b
      have hR2b := nR2b
      clear nR2b
      replace nR3b := hide nR3b
      have hR3b := nR3b
      clear nR3b
      replace hY4 := hide hY4
      refine (KHB.out _ hY4.out).mono ?_
      intro p4
      have bxw := HX.out.1.up hY4.out
      have cw0 := bxw.cell 0 rfl
      have cw1 := bxw.cell 1 rfl
      have lcw := bxw.lt
      clear bxw
      have bxd := HX.out.2.1.up hY4.out
      have cd0 := bxd.cell 0 rfl
      have cd1 := bxd.cell 1 rfl
      have cd2 := bxd.cell 2 rfl
      have cd3 := bxd.cell 3 rfl
      have cd4 := bxd.cell 4 rfl
      have lcd := bxd.lt
      clear bxd
      have bxa := HX.out.2.2.1.up hY4.out
      have ca0 := bxa.cell 0 rfl
      have ca1 := bxa.cell 1 rfl
      have ca2 := bxa.cell 2 rfl
      have ca3 := bxa.cell 3 rfl
      have lca := bxa.lt
      clear bxa
      have r20 := hR2b.out.cell 0 rfl
      have fr20 := hR2b.out.frozen 0
      have r21 := hR2b.out.cell 1 rfl
      have fr21 := hR2b.out.frozen 1
      have r22 := hR2b.out.cell 2 rfl
      have fr22 := hR2b.out.frozen 2
      have r23 := hR2b.out.cell 3 rfl
      have fr23 := hR2b.out.frozen 3
      have lr2 := hR2b.out.lt
      have e1 : N ≠ R2 := by have := HX.out.1.lt; omega
      have e5 : N + 1 ≠ R2 := by have := HX.out.2.1.lt; omega
      have e9 : N + 1 + 1 ≠ R2 := by have := HX.out.2.2.1.lt; omega
      go_wp2_with fail
      go_at_call 32
      refine forgetC (fun Y => Up W7 Y ∧ Box Y R2 #[.int .i64 HBv.1, .int .i64 HBv.2.1, .int .i64 HBv.2.2.1, .int .i64 HBv.2.2.2] 38 ∧ Box Y R3 #[.int .i64 LA.1, .int .i64 LA.2.1, .int .i64 LA.2.2.1, .int .i64 LA.2.2.2] 38) ⟨?_, ?_, ?_⟩ ?_
      · exact (by repeat (first | with_reducible exact hY4.out | with_reducible apply Up.ext | with_reducible apply Up.alloc | with_reducible apply Up.drew | (with_reducible refine Up.setCell ?_ (by simp only; omega) _)))
      · exact (by (repeat (first | with_reducible apply Box.ext | with_reducible apply Box.alloc | with_reducible apply Box.drew)); exact ((((hR2b.out.set 0 (.int .i64 HBv.1)).set 1 (.int .i64 HBv.2.1)).set 2 (.int .i64 HBv.2.2.1)).set 3 (.int .i64 HBv.2.2.2)))
      · exact (by repeat (first | with_reducible exact hR3b.out | with_reducible apply Box.ext | with_reducible apply Box.alloc | with_reducible apply Box.drew | (with_reducible refine Box.other ?_ (by omega) _ _)))
      rintro Y5 ⟨hY5, b2n, b3n⟩
      clear cw0 cw1 lcw cd0 cd1 cd2 cd3 cd4 lcd ca0 ca1 ca2 ca3 lca r20 fr20 r21 fr21 r22 fr22 r23 fr23 lr2
      have r20 := b2n.cell 0 rfl
      have r30 := b3n.cell 0 rfl
      have fr30 := b3n.frozen 0
      have r21 := b2n.cell 1 rfl
      have r31 := b3n.cell 1 rfl
      have fr31 := b3n.frozen 1
      have r22 := b2n.cell 2 rfl
      have r32 := b3n.cell 2 rfl
      have fr32 := b3n.frozen 2
      have r23 := b2n.cell 3 rfl
      have r33 := b3n.cell 3 rfl
      have fr33 := b3n.frozen 3
      have lr2 := b2n.lt
      have lr3 := b3n.lt
      refine (KHA.out _ hY5).mono ?_
      intro p5
      have HE := hide (HX.out.2.2.2.2.2.trans hY5)
      have lw7 := HX.out.2.2.2.2.2.below.size
      clear hY5 b2n b3n
      go_wp2_with (first | (go_at_call 16; (with_reducible refine (KI2.out _).mono ?_); intro _) | (go_at_call 18; (with_reducible refine (awake_any _).mono ?_); intro _))
      go_ret
      exact ⟨rfl, (by repeat (first | with_reducible exact HE.out | with_reducible apply Up.ext | with_reducible apply Up.alloc | with_reducible apply Up.drew | (with_reducible refine Up.setCell ?_ (by simp only; omega) _)))⟩

set_option maxRecDepth 100000 in
theorem finside_lifted (os : Os) (started : os.Started) (H : Type) (enc : TypeId × Value → H) :
    ReturnsInHanded {} Try.checked os 6 .any (Rows.forceInsideSpec.pre6 enc Try.prog Try.f6 Rows.forceInsideRow.domain false) (Rows.forceInsideSpec.post enc Try.prog Try.f6 false true false false) := by
  refine returnsInHanded_of_change (C := Try.checked) knob_own started (by kernel_rfl) Try.func6
    (ChangeSpec.witness6 (enc := enc) (C := Try.checked) false ⟨#[], #[.slice none 0 0], []⟩ 8 (by kernel_rfl) (by kernel_rfl) (by kernel_rfl) (by kernel_rfl)) ?_
  intro W base args ds gs before hval0 hW _ _
  have hval : ∀ (j : Nat) t v, Try.f6.params[j]? = some t → args[j]? = some v → Value.okWide Try.prog W .any base t v := hval0
  have hW' := hW
  obtain ⟨p, q, hA0, hV, rfl, _, _⟩ := hW
  have hA : DataW.TrodAll enc Try.prog W 0 (fun _ => true) true Try.f6.params.toList args.toList ds p := hA0
  rw [Try.params6] at hA hval
  obtain ⟨v0, vs0, d0, ds0, p0, q0, hargs, rfl, rfl, h0, r0⟩ := trodAll_cons hA
  obtain ⟨rfl, rfl, rfl⟩ := trodAll_nil r0
  obtain rfl : args = #[v0] := by cases args; simp_all
  obtain ⟨rfl, rfl⟩ := trodVars_none hV
  have hlt0 : ∀ x ∈ p0, x.block < W.heap.size := fun x hx => hW'.lt x (by simp [hx])
  obtain ⟨hn0, shut0⟩ := open_nums (hval 0 22 v0 rfl rfl) h0 hlt0
  clear hA0 hval0
  simp only [List.append_nil] at hW'
  refine (finside_law v0 hn0 ).mono fun px => ?_
  exact ⟨_, rfl, post_of_below (pa := (p0 ++ [])) (pv := []) hW' (fun _ _ _ => (trodAll_cons_mk (shut_bool Try.underlying4 _) trodAll_mk0)) (fun sp hsp => (trodAll_cons_mk (shut0 _ sp (Up.below ⟨px, rfl⟩) (fun x hx => hsp x (by simp [hx]))) trodAll_mk0)) (fun _ _ => rfl) (by simp)
    (Up.below ⟨px, rfl⟩) (ok_one (by kernel_rfl) rfl (okWide_bool_mk Try.underlying4 _))⟩

theorem finside_holds : Rows.ForceInsideSaid :=
  OpenClaim.holds_of_wide 6 Try.f6 rfl rfl rfl rfl rfl rfl rfl ⟨rfl, rfl, rfl, rfl, rfl⟩ rfl rfl rfl rfl rfl (by kernel_rfl) Try.func6 (by kernel_rfl)
    (of_decide_eq_true (by kernel_rfl)) (by unfold Func.isWrapper; rw [if_neg (by decide +kernel)]; exact ⟨rfl, rfl⟩)
    (fun os started H enc _ => finside_lifted os started H enc)
#print axioms finside_holds
end Go.Proofs.Ytbcgdhldkanecaa
