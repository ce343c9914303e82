/- ForceSums returns true for every input: what moves a body is the sum of its parts, and Pull is Over of one place. No conditions. -/
import Derived.Test.YtbcgdhldkanecaaPostn
import Derived.Test.YtbcgdhldkanecaaPostb
import Derived.Test.YtbcgdhldkanecaaShown
import Derived.Test.YtbcgdhldkanecaaSumF
import Derived.Test.YtbcgdhldkanecaaMade
import Derived.JoinedOf
import Derived.JoinedAt
import Derived.ChangeSame
import Derived.OpenShut
namespace Go.Proofs.Ytbcgdhldkanecaa
open Go.RowKit Go.ChangeShapes Go.WideShapes Go.ChangeAt Go.Joins Go.Shelf

set_option maxRecDepth 100000 in
set_option maxHeartbeats 100000000 in
theorem fsums_law (v0 : Value) {w : World} (hN : Nums w v0) :
    Gives Try.prog 7 #[v0] w (.bool true) := by
  obtain ⟨sa, sn, sc, rfl⟩ := hN.form
  obtain ⟨B, hBe⟩ : ∃ B, w.heap.size = B := ⟨_, rfl⟩
  obtain ⟨W0, hW0⟩ : ∃ W0, w.alloc (.cells #[.slice sa sn sc, .int .i64 0] 81) = W0 := ⟨_, rfl⟩
  have hu0 : Up w W0 := by rw [← hW0]; exact (by repeat (first | with_reducible exact Up.refl _ | with_reducible apply Up.plus | apply Up.ext | apply Up.alloc | apply Up.drew | (refine Up.setCell ?_ (by simp; try omega) _)))
  have hb0 : Box W0 B #[.slice sa sn sc, .int .i64 0] 81 := by rw [← hW0]; exact Box.mk hBe
  have hBl : w.heap.size ≤ B := by omega
  have hl0 : W0.heap.size = B + 1 := by rw [← hW0, ← hBe]; simp
  have KS := hide (fun n V (hV : RingAt W0 B n V) (hn : n + 60 ≤ 100000) => skyof_at hN hBl hu0 hb0 hV hn)
  have KD := hide (fun n V (hV : RingAt W0 B n V) (hn : n + 6 ≤ 100000) => (driftof_r hN hBl).at hu0 hb0 hBl hV hn)
  have KA := hide (fun n V (hV : RingAt W0 B n V) (hn : n + 6 ≤ 100000) => (areaof_r hN hBl (most := 2200) (wide := 200) (by omega) (by omega) (by omega) (by omega)).at hu0 hb0 hBl hV hn)
  have KR := hide (fun n V (hV : RingAt W0 B n V) (hn : n + 1 ≤ 100000) => (range_r hN hBl (lo := 0) (hi := 60) (by omega) (by omega) (by omega)).at hu0 hb0 hBl hV hn)
  have KI := hide (fun (a b c d : Int) (a0 : -100000000000 ≤ a) (ab : a ≤ b) (b1 : b ≤ 100000000000) (c0 : -100000000000 ≤ c) (cd : c ≤ d) (d1 : d ≤ 100000000000) n V (hV : RingAt W0 B n V) (hn : n + 2 ≤ 100000) => (somein_r hN hBl a0 ab b1 c0 cd d1).at hu0 hb0 hBl hV hn)
  have HR := hide (RingAt.start (n := 0) hb0 (by omega) (by omega))
  have HU := hide (And.intro hu0 hBl)
  clear hN hb0 hu0 hBl
  (unfold Gives; go_enter Try.func7, Try.ntmps7)
  go_wp2_with fail
  go_at_call 10
  refine (newring_any _ _ _ _).mono ?_
  rintro _ _ ⟨rfl, rfl⟩
  rw [hW0, hBe]
  clear hW0
  go_wp2_with fail
  go_at_call 19
  refine (KS.out _ _ HR.out (by omega)).mono ?_
  rintro _ V1 ⟨_, s, rfl, ⟨vb, vs, vc, rfl, hbod, hhome, _, _⟩, hsm, hR1, hg1⟩
  obtain ⟨ba, bc, rfl, hbl⟩ := hbod
  have hbod : Bods (fun b => W0.heap.size ≤ b) V1 (.slice ba s.bodies.length bc) s.bodies := ⟨ba, bc, rfl, hbl⟩
  clear hbl
  go_wp2_with fail
  go_at_call 20
  refine (KD.out _ _ hR1 (by omega)).mono ?_
  rintro _ V2 ⟨_, rfl, ⟨l1, l2, h1, h2, g, hl, hh, hg, rfl⟩, hR2, hg2⟩
  go_wp2_with fail
  go_at_call 21
  refine (KA.out _ _ hR2 (by omega)).mono ?_
  rintro _ V3 ⟨_, rfl, ⟨x0, x1, y0, y1, hx, hy, rfl⟩, hR3, hg3⟩
  go_wp2_with fail
  go_at_call 12
  refine (KR.out _ _ hR3 (by omega)).mono ?_
  rintro _ V4 ⟨_, rfl, ⟨t, t0, t1, rfl⟩, hR4, hg4⟩
  have hk : Keeps (fun b => W0.heap.size ≤ b) V1 V4 := (((Keeps.refl _ V1).turn hg2 (by intro b e; cases e; omega)).turn hg3 (by intro b e; cases e; omega)).turn hg4 (by intro b e; cases e; omega)
  have hbod4 := Bods.keeps hbod hk
  have hBV : B + 1 ≤ V4.heap.size := by have := hR4.size; omega
  obtain ⟨N, hNN⟩ : ∃ N, V4.heap.size = N := ⟨_, rfl⟩
  clear hR1 hR2 hR3 hg1 hg2 hg3 hg4 hbod KS KD KA KR HR hk
  go_wp2_with fail
  go_at_call 13
  refine forgetC (fun W5 => RingAt W0 B 73 W5 ∧ Box W5 N #[.slice ba s.bodies.length bc, .int .i64 s.home] 34 ∧ Box W5 (N + 1) #[.int .i64 (l1), .int .i64 (l2), .int .i64 (h1), .int .i64 (h2), .int .i64 (g)] 54 ∧ Box W5 (N + 1 + 1) #[.int .i64 (x0), .int .i64 (x1), .int .i64 (y0), .int .i64 (y1)] 38 ∧ Bods (fun b => W0.heap.size ≤ b) W5 (.slice ba s.bodies.length bc) s.bodies)
    ⟨(((hR4.alloc _).alloc _).alloc _).mono (by omega), by rw [← hNN]; exact (by repeat (first | exact Box.mk rfl | (refine Box.mk ?_; simp; done) | apply Box.ext | apply Box.drew | apply Box.alloc | apply Box.two1 | (refine Box.other ?_ (by omega) _ _))), by rw [← hNN]; exact (by repeat (first | exact Box.mk rfl | (refine Box.mk ?_; simp; done) | apply Box.ext | apply Box.drew | apply Box.alloc | apply Box.two1 | (refine Box.other ?_ (by omega) _ _))), by rw [← hNN]; exact (by repeat (first | exact Box.mk rfl | (refine Box.mk ?_; simp; done) | apply Box.ext | apply Box.drew | apply Box.alloc | apply Box.two1 | (refine Box.other ?_ (by omega) _ _))), hbod4.keeps (Up.keeps (by repeat (first | with_reducible exact Up.refl _ | with_reducible apply Up.plus | apply Up.ext | apply Up.alloc | apply Up.drew | (refine Up.setCell ?_ (by simp; try omega) _))) _)⟩ ?_
  rintro W5 ⟨hR5, bw, bd, ba5, hbod5⟩
  clear hR4 hbod4
  have hBN : B + 1 ≤ N := by omega
  clear hNN hBV
  -- the plain values
  have ha : OrdA 33554432 ((x0, x1, y0, y1) : Ar) := ⟨⟨by simp only [arX]; omega, by simp only [arX]; omega, by simp only [arX]; omega⟩, by simp only [arY]; omega, by simp only [arY]; omega, by simp only [arY]; omega⟩
  have E1 := light_small hsm (l := (l1, l2)) (h := (h1, h2)) (g := g) (t := t) (a := (x0, x1, y0, y1)) hl hh (by omega) (by omega) ha
  have E2 := heat_small hsm (l := (l1, l2)) (h := (h1, h2)) (g := g) (t := t) (a := (x0, x1, y0, y1)) hl hh (by omega) (by omega) ha
  have E3 := over_small hsm (l := (l1, l2)) (h := (h1, h2)) (g := g) (t := t) (a := (x0, x1, y0, y1)) hl hh (by omega) (by omega) ha
  have E4 := fun (i : Nat) (hi : i < s.bodies.length) => one_small hsm (t := t) (a := (x0, x1, y0, y1)) (by omega) ha hi
  have hO1 := light_ord (l := (l1, l2)) ⟨by simp only; omega, hl.2.1, hl.2.2⟩ (head_ord hsm t ha)
  have hO2 := heat_ord (l := (h1, h2)) ⟨by simp only; omega, hh.2.1, hh.2.2⟩ (head_ord hsm t ha)
  have hO3 := pulls_ord hsm t ha
  have hPl : (s.bodies.map (pullB t (x0, x1, y0, y1))).length = s.bodies.length := by simp
  have hPg : ∀ i, i < s.bodies.length → pullB t (x0, x1, y0, y1) (s.bodies.getD i ⟨0, 0, []⟩) = (s.bodies.map (pullB t (x0, x1, y0, y1))).getD i (0, 0, 0, 0) := fun i hi => by
    simp [List.getD, List.getElem?_eq_getElem hi]
  unfold allS baseS at E3
  generalize s.bodies.map (pullB t (x0, x1, y0, y1)) = P at *
  generalize lightP (l1, l2) (P.headD (0, 0, 0, 0)) = LV at *
  generalize heatP (h1, h2) (P.headD (0, 0, 0, 0)) = HV at *
  have hgas := gas_ord (g := g) hg.1 (by omega)
  have hn3 := hsm.num
  have KL := hide (fun W' (hu : Up W5 W') => by have := fLight_any (hbod5.keeps (hu.keeps _)) hhome (l1, l2) (h1, h2) g t (x0, x1, y0, y1); rw [E1] at this; exact this)
  have KH := hide (fun W' (hu : Up W5 W') => by have := fHeat_any (hbod5.keeps (hu.keeps _)) hhome (l1, l2) (h1, h2) g t (x0, x1, y0, y1); rw [E2] at this; exact this)
  have KO := hide (fun W' (hu : Up W5 W') => by have := fOver_any (hbod5.keeps (hu.keeps _)) hhome (l1, l2) (h1, h2) g t (x0, x1, y0, y1); rw [E3] at this; exact this)
  have K1 := hide (fun (i : Nat) (hi : i < s.bodies.length) W' (hu : Up W5 W') => by have := fOne_any (hbod5.keeps (hu.keeps _)) hhome i t (x0, x1, y0, y1); rw [E4 i hi, hPg i hi] at this; exact this)
  have KA2 := hide (fun (a b : Ar) (ha : OrdA 100000000 a) (hb : OrdA 100000000 b) W => (show Gives Try.prog 33 #[.agg #[.int .i64 a.1, .int .i64 a.2.1, .int .i64 a.2.2.1, .int .i64 a.2.2.2], .agg #[.int .i64 b.1, .int .i64 b.2.1, .int .i64 b.2.2.1, .int .i64 b.2.2.2]] W (.agg #[.int .i64 (plusA a b).1, .int .i64 (plusA a b).2.1, .int .i64 (plusA a b).2.2.1, .int .i64 (plusA a b).2.2.2]) from sumarea_any a b (by have := ha.bds; omega) (by have := hb.bds; omega) W))
  have hE := hide (And.intro hbod5 (And.intro hhome hsm))
  have hhomeX := hide hhome
  have HX := hide (And.intro hR5 (And.intro bw (And.intro bd ba5)))
  clear E1 E2 E3 E4 hPg hbod5 hhome
  have cw0 := bw.cell 0 rfl
  have cw1 := bw.cell 1 rfl
  have lw := bw.lt
  have cd0 := bd.cell 0 rfl
  have cd1 := bd.cell 1 rfl
  have cd2 := bd.cell 2 rfl
  have cd3 := bd.cell 3 rfl
  have cd4 := bd.cell 4 rfl
  have ld := bd.lt
  have ca0 := ba5.cell 0 rfl
  have ca1 := ba5.cell 1 rfl
  have ca2 := ba5.cell 2 rfl
  have ca3 := ba5.cell 3 rfl
  have la := ba5.lt
  obtain ⟨M, hM⟩ : ∃ M, W5.heap.size = M := ⟨_, rfl⟩
  have hMN : N + 1 + 1 < M := by omega
  clear hR5 bw bd ba5
  refine (xarea_any _ _ _ _ _).mono ?_
  intro q1
  go_wp2_with fail
  go_at_call 31
  refine (KL.out _ (by repeat (first | with_reducible exact Up.refl _ | with_reducible apply Up.plus | apply Up.ext | apply Up.alloc | apply Up.drew | (refine Up.setCell ?_ (by simp; try omega) _)))).mono ?_
  intro p1
  go_wp2_with fail
  go_at_call 32
  refine (KH.out _ (by repeat (first | with_reducible exact Up.refl _ | with_reducible apply Up.plus | apply Up.ext | apply Up.alloc | apply Up.drew | (refine Up.setCell ?_ (by simp; try omega) _)))).mono ?_
  intro p2
  go_wp2_with fail
  obtain ⟨T8, hT8⟩ : ∃ T, M + q1.os.size = T := ⟨_, rfl⟩
  obtain ⟨T9, hT9⟩ : ∃ T, T8 + 1 + p1.os.size = T := ⟨_, rfl⟩
  obtain ⟨T11, hT11⟩ : ∃ T, T9 + 1 + p2.os.size = T := ⟨_, rfl⟩
  rw [hT8, hT9, hT11]
  refine forgetW (fun W6 => Up W5 W6 ∧ Box W6 T8 #[.int .i64 (gasP g).1, .int .i64 (gasP g).2.1, .int .i64 (gasP g).2.2.1, .int .i64 (gasP g).2.2.2] 38 ∧ Box W6 T9 #[.int .i64 LV.1, .int .i64 LV.2.1, .int .i64 LV.2.2.1, .int .i64 LV.2.2.2] 38 ∧ Box W6 T11 #[.int .i64 HV.1, .int .i64 HV.2.1, .int .i64 HV.2.2.1, .int .i64 HV.2.2.2] 38)
    ⟨(by repeat (first | with_reducible exact Up.refl _ | with_reducible apply Up.plus | apply Up.ext | apply Up.alloc | apply Up.drew | (refine Up.setCell ?_ (by simp; try omega) _))), by rw [← hT8, ← hM]; exact (by repeat (first | exact Box.mk rfl | (refine Box.mk ?_; simp; done) | apply Box.ext | apply Box.drew | apply Box.alloc | apply Box.two1 | (refine Box.other ?_ (by omega) _ _))), by rw [← hT9, ← hT8, ← hM]; exact (by repeat (first | exact Box.mk rfl | (refine Box.mk ?_; simp; done) | apply Box.ext | apply Box.drew | apply Box.alloc | apply Box.two1 | (refine Box.other ?_ (by omega) _ _))), by rw [← hT11, ← hT9, ← hT8, ← hM]; exact (by repeat (first | exact Box.mk rfl | (refine Box.mk ?_; simp; done) | apply Box.ext | apply Box.drew | apply Box.alloc | apply Box.two1 | (refine Box.other ?_ (by omega) _ _)))⟩ ?_
  rintro W6 ⟨hu6, b8, b9, b11⟩
  have hM8 : M ≤ T8 := by omega
  have hT9' : T8 < T9 := by omega
  have hT11' : T9 < T11 := by omega
  clear hT8 hT9 hT11 cw0 cw1 lw cd0 cd1 cd2 cd3 cd4 ld ca0 ca1 ca2 ca3 la
  have g0 := b8.cell 0 rfl
  have g1 := b8.cell 1 rfl
  have g2 := b8.cell 2 rfl
  have g3 := b8.cell 3 rfl
  have fg0 := b8.frozen 0
  have fg1 := b8.frozen 1
  have fg2 := b8.frozen 2
  have fg3 := b8.frozen 3
  have k0 := b9.cell 0 rfl
  have k1 := b9.cell 1 rfl
  have k2 := b9.cell 2 rfl
  have k3 := b9.cell 3 rfl
  have m0 := b11.cell 0 rfl
  have m1 := b11.cell 1 rfl
  have m2 := b11.cell 2 rfl
  have m3 := b11.cell 3 rfl
  have l8 := b8.lt
  have l9 := b9.lt
  have l11 := b11.lt
  have HW6 := hide (And.intro hu6 b8)
  clear hu6 b8 b9 b11
  have KSa := hide (fun W => KA2.out (gasP g) LV (hgas.mono (by omega)) (hO1.mono (by omega)) W)
  have KSb := hide (fun W => KA2.out (plusA (gasP g) LV) HV ((plus_ord hgas hO1).mono (by omega)) (hO2.mono (by omega)) W)
  have hS0 := plus_ord (plus_ord hgas hO1) hO2
  ((first | with_reducible refine wp_region_ext_tail2 1 (by kernel_rfl) (by kernel_rfl) ?_ | refine wp_region_ext_tail 1 (by kernel_rfl) (by kernel_rfl) ?_); simp only [List.length_cons, List.length_nil, Nat.reduceAdd, Nat.reduceSub, List.take_succ_cons, List.take_zero, List.drop_succ_cons, List.drop_zero]; (repeat (go_big_quiet_step ((first | (go_at_call 33; with_reducible exact Gives.inRegion (KSa.out _)) | (go_at_call 33; with_reducible exact Gives.inRegion (KSb.out _)))))); refine wpQuiet_nil ?_; intro _ hw'; obtain ⟨_, hw''⟩ := hw'; subst hw'')
  go_wp2_with fail
  clear KSa KSb
  generalize plusA (plusA (gasP g) LV) HV = S0 at *
  refine forgetW (fun W7 => Up W5 W7 ∧ Box W7 T8 #[.int .i64 S0.1, .int .i64 S0.2.1, .int .i64 S0.2.2.1, .int .i64 S0.2.2.2] 38) ⟨?_, ?_⟩ ?_
  · have h6 := HW6.out.1
    exact (by repeat (first | with_reducible exact h6 | with_reducible apply Up.ext | with_reducible apply Up.alloc | with_reducible apply Up.drew | (with_reducible refine Up.setCell ?_ (by simp; omega) _)))
  · exact (by (repeat (first | with_reducible apply Box.ext | with_reducible apply Box.alloc | with_reducible apply Box.drew)); exact ((((HW6.out.2.set 0 (.int .i64 S0.1)).set 1 (.int .i64 S0.2.1)).set 2 (.int .i64 S0.2.2.1)).set 3 (.int .i64 S0.2.2.2)))
  rintro W7 ⟨hu7, b8⟩
  clear HW6 g0 g1 g2 g3 fg0 fg1 fg2 fg3 k0 k1 k2 k3 m0 m1 m2 m3 l8 l9 l11
  have HW7 := hide (And.intro hu7 b8)
  clear hu7 b8
  go_loopw [13] (fun s13 wr => ∃ k : Nat, s13 = .int .i64 k ∧ k ≤ s.bodies.length ∧ Up W5 wr ∧ Box wr T8 #[.int .i64 (partS S0 P k).1, .int .i64 (partS S0 P k).2.1, .int .i64 (partS S0 P k).2.2.1, .int .i64 (partS S0 P k).2.2.2] 38) (fun q _ => s.bodies.length - (intOf q).toNat)
  case atStart => exact ⟨0, by go_num, by omega, HW7.out.1, HW7.out.2⟩
  case round =>
    obtain ⟨k, rfl, hk, hu, b8⟩ := hrel
    clear HW7
    have bwr := HX.out.2.1.up hu
    have bar := HX.out.2.2.2.up hu
    have cw0 := bwr.cell 0 rfl
    have cw1 := bwr.cell 1 rfl
    have lw := bwr.lt
    have hTb : M ≤ T8 := hM8
    by_cases hlt : k < s.bodies.length
    · have hkb : decide ((k : Int) < s.bodies.length) = true := by simp; omega
      have ca0 := bar.cell 0 rfl
      have ca1 := bar.cell 1 rfl
      have ca2 := bar.cell 2 rfl
      have ca3 := bar.cell 3 rfl
      have la := bar.lt
      have g0 := b8.cell 0 rfl
      have g1 := b8.cell 1 rfl
      have g2 := b8.cell 2 rfl
      have g3 := b8.cell 3 rfl
      have fg0 := b8.frozen 0
      have fg1 := b8.frozen 1
      have fg2 := b8.frozen 2
      have fg3 := b8.frozen 3
      have l8 := b8.lt
      have hSk := partS_ord hS0 hO3 k (by omega)
      have hPk := hO3 (P.getD k (0, 0, 0, 0)) (by rw [List.getD_eq_getElem?_getD, List.getElem?_eq_getElem (by omega)]; exact List.getElem_mem _)
      have hNext := partS_succ (b := S0) (ps := P) (k := k) (by omega)
      have HN := hide hNext
      have K1k := hide (fun W' (hu : Up W5 W') => K1.out k hlt W' hu)
      have KSk := hide (fun W => KA2.out (partS S0 P k) (P.getD k (0, 0, 0, 0)) (hSk.mono (by omega)) (hPk.mono (by omega)) W)
      rw [← hNext] at KSk
      have HW := hide (And.intro hu b8)
      obtain ⟨Sn, hSn⟩ : ∃ Sn, partS S0 P (k + 1) = Sn := ⟨_, rfl⟩
      rw [hSn] at KSk
      have HSn := hide hSn
      clear hNext bwr bar hu b8 hSn HN
      generalize P.getD k (0, 0, 0, 0) = Pk at *
      generalize partS S0 P k = Sk at *
      go_wp2_with fail
      go_at_call 14
      refine (K1k.out _ (by have := HW.out.1; exact (by repeat (first | with_reducible exact this | with_reducible apply Up.ext | with_reducible apply Up.alloc | with_reducible apply Up.drew)))).mono ?_
      intro p1
      go_wp2_with fail
      go_at_call 33
      refine (KSk.out _).mono ?_
      intro p2
      go_wp2_with fail
      go_roundw
      case rel =>
        refine ⟨k + 1, by go_num, by omega, ?_, ?_⟩
        · have h6 := HW.out.1
          exact (by repeat (first | with_reducible exact h6 | with_reducible apply Up.ext | with_reducible apply Up.alloc | with_reducible apply Up.drew | (with_reducible refine Up.setCell ?_ (by simp; omega) _)))
        · rw [HSn.out]; exact (by (repeat (first | with_reducible apply Box.ext | with_reducible apply Box.alloc | with_reducible apply Box.drew)); exact ((((HW.out.2.set 0 (.int .i64 Sn.1)).set 1 (.int .i64 Sn.2.1)).set 2 (.int .i64 Sn.2.2.1)).set 3 (.int .i64 Sn.2.2.2)))
      case measure => simp [intOf]; omega
    · have hkb : decide ((k : Int) < s.bodies.length) = false := by simp; omega
      have hke : k = P.length := by omega
      have hAll : partS S0 P k = P.foldl plusA S0 := by rw [hke]; exact partS_all _ _
      rw [hAll] at b8
      generalize P.foldl plusA S0 = F at *
      have ca0 := bar.cell 0 rfl
      have ca1 := bar.cell 1 rfl
      have ca2 := bar.cell 2 rfl
      have ca3 := bar.cell 3 rfl
      have la := bar.lt
      have bdr := HX.out.2.2.1.up hu
      have cd0 := bdr.cell 0 rfl
      have cd1 := bdr.cell 1 rfl
      have cd2 := bdr.cell 2 rfl
      have cd3 := bdr.cell 3 rfl
      have cd4 := bdr.cell 4 rfl
      have ld := bdr.lt
      have l8 := b8.lt
      have HW := hide (And.intro hu b8)
      clear hu b8 bwr bar bdr K1 KL KH KA2 hAll hke hS0 hO3 hPl hn3
      go_wp2_with fail
      go_at_call 22
      refine (KO.out _ (by have := HW.out.1; exact (by repeat (first | with_reducible exact this | with_reducible apply Up.ext | with_reducible apply Up.alloc | with_reducible apply Up.drew)))).mono ?_
      intro p1
      go_wp2_with fail
      obtain ⟨T16, hT16⟩ : ∃ T, wr.heap.size + p1.os.size = T := ⟨_, rfl⟩
      try rw [hT16]
      go_at_call 34
      refine forgetC (fun W8 => Up W5 W8 ∧ Box W8 T8 #[.int .i64 F.1, .int .i64 F.2.1, .int .i64 F.2.2.1, .int .i64 F.2.2.2] 38 ∧ Box W8 T16 #[.int .i64 F.1, .int .i64 F.2.1, .int .i64 F.2.2.1, .int .i64 F.2.2.2] 38) ⟨?_, ?_, ?_⟩ ?_
      · have h6 := HW.out.1
        exact (by repeat (first | with_reducible exact h6 | with_reducible apply Up.ext | with_reducible apply Up.alloc | with_reducible apply Up.drew))
      · have h6 := HW.out.2
        exact (by repeat (first | with_reducible exact h6 | with_reducible apply Box.ext | with_reducible apply Box.alloc | with_reducible apply Box.drew))
      · rw [← hT16]; exact (by repeat (first | exact Box.mk rfl | (refine Box.mk ?_; simp; done) | apply Box.ext | apply Box.drew | apply Box.alloc | apply Box.two1 | (refine Box.other ?_ (by omega) _ _)))
      rintro W8 ⟨hu8, b8, b16⟩
      have hT16' : M ≤ T16 := by have := HW.out.1.below.size; omega
      clear hT16 HW cw0 cw1 lw ca0 ca1 ca2 ca3 la cd0 cd1 cd2 cd3 cd4 ld l8 KO
      refine (KI.out x0 x1 y0 y1 (by omega) (by omega) (by omega) (by omega) (by omega) (by omega) _ _ (HX.out.1.ofUp hu8) (by omega)).mono ?_
      rintro _ V9 ⟨_, rfl, ⟨px, py, px0, px1, py0, py1, rfl⟩, hR9, hg9⟩
      have hk9 : Keeps (fun b => W0.heap.size ≤ b) W5 V9 := (hu8.keeps _).turn hg9 (by intro b e; cases e; omega)
      have hbod9 := Bods.keeps hE.out.1 hk9
      have hap : OrdA 33554432 ((px, px, py, py) : Ar) := ⟨⟨by simp only [arX]; omega, by simp only [arX]; omega, by simp only [arX]; omega⟩, by simp only [arY]; omega, by simp only [arY]; omega, by simp only [arY]; omega⟩
      have E5 := over_small hE.out.2.2 (l := (l1, l2)) (h := (h1, h2)) (g := g) (t := t) (a := (px, px, py, py)) hl hh (by omega) (by omega) hap
      generalize allS (l1, l2) (h1, h2) g (s.bodies.map (pullB t (px, px, py, py))) = OV at E5
      have bw9 := hk9.box HX.out.2.1 (by omega)
      have bd9 := hk9.box HX.out.2.2.1 (by omega)
      have b89 := (b8.grown hg9 (by simp; omega))
      have b169 := (b16.grown hg9 (by simp; omega))
      have lM9 : M ≤ V9.heap.size := by have h1 := hu8.below.size; have h2 := hg9.size; omega
      have HU9 := hide (hR9.up HU.out.1 HU.out.2)
      clear hR9 hg9 hu8 b8 b16 hE hk9 HX
      go_wp2_with fail
      obtain ⟨T18, hT18⟩ : ∃ T, V9.heap.size = T := ⟨_, rfl⟩
      try rw [hT18]
      refine forgetW (fun V => Up w V ∧ Box V N #[.slice ba s.bodies.length bc, .int .i64 s.home] 34 ∧ Box V (N + 1) #[.int .i64 (l1), .int .i64 (l2), .int .i64 (h1), .int .i64 (h2), .int .i64 (g)] 54 ∧ Box V T8 #[.int .i64 F.1, .int .i64 F.2.1, .int .i64 F.2.2.1, .int .i64 F.2.2.2] 38 ∧ Box V T16 #[.int .i64 F.1, .int .i64 F.2.1, .int .i64 F.2.2.1, .int .i64 F.2.2.2] 38 ∧ Box V T18 #[.int .i64 (px), .int .i64 (py)] 26 ∧ Bods (fun b => W0.heap.size ≤ b) V (.slice ba s.bodies.length bc) s.bodies)
        ⟨HU9.out.alloc _, bw9.alloc _, bd9.alloc _, b89.alloc _, b169.alloc _, by rw [← hT18]; exact Box.mk rfl, hbod9.keeps (Up.keeps (by repeat (first | with_reducible exact Up.refl _ | with_reducible apply Up.plus | apply Up.ext | apply Up.alloc | apply Up.drew | (refine Up.setCell ?_ (by simp; try omega) _))) _)⟩ ?_
      rintro V ⟨huV, bw, bd, b8, b16, b18, hbodV⟩
      clear HU9 bw9 bd9 b89 b169 hbod9
      have KO2 := hide (fun W' (hu : Up V W') => by have := fOver_any (hbodV.keeps (hu.keeps _)) hhomeX.out (l1, l2) (h1, h2) g t (px, px, py, py); rw [E5] at this; exact this)
      have KP := hide (fun W' (hu : Up V W') => by have := fPull_any (hbodV.keeps (hu.keeps _)) hhomeX.out (l1, l2) (h1, h2) g t px py; rw [E5] at this; exact this)
      have HV := hide (And.intro huV (And.intro bw (And.intro bd (And.intro b8 (And.intro b16 b18)))))
      have cw0 := bw.cell 0 rfl
      have cw1 := bw.cell 1 rfl
      have lw := bw.lt
      have cd0 := bd.cell 0 rfl
      have cd1 := bd.cell 1 rfl
      have cd2 := bd.cell 2 rfl
      have cd3 := bd.cell 3 rfl
      have cd4 := bd.cell 4 rfl
      have ld := bd.lt
      have cp0 := b18.cell 0 rfl
      have cp1 := b18.cell 1 rfl
      have l18 := b18.lt
      clear huV bw bd b8 b16 b18 hbodV E5
      refine wp_region_floatz (al := [(12, 19, #[.int .i64 (0), .int .i64 (0), .int .i64 (0), .int .i64 (0)], 38)]) (mv := fun _ => false) 11 [13, 14] [0, 1, 2, 3, 4, 5, 6, 7, 8, 9, 10, 11] (by kernel_rfl) (by kernel_rfl) rfl (fun _ => rfl) (fun _ _ _ _ h => h) (makes1 ⟨_, rfl, rfl, fun _ => rfl, fun _ _ => by simp [go_sem]⟩) (cls_ext _) (by first | exact drew_in2 _ _ | exact drew_in _) (Nat.le_refl _) ?_
      simp only [withOps, List.filterMap_cons, List.filterMap_nil, List.getElem?_toArray, List.getElem?_cons_zero, List.getElem?_cons_succ, Option.map_some]
      (repeat (first | (apply walkF_pure (base := fun p : Ext => ext _ p) rfl rfl rfl (by kernel_rfl); · (intro px K hK; go_big_quiet_op; first | exact hK | (apply Exists.intro; refine ⟨fun _ => ?_, ?_⟩; (· ((first | (go_at_call 15; with_reducible exact Gives.inFloat (xat_any _ _ _)) | (go_at_call 22; with_reducible exact Gives.inFloat (KO2.out _ (by repeat (first | with_reducible exact Up.refl _ | with_reducible apply Up.plus | apply Up.ext | apply Up.alloc | apply Up.drew | (refine Up.setCell ?_ (by simp; try omega) _)))))))); exact hK))) | (apply walkF_skip rfl; simp only [Act.put, List.setIfInBounds_toArray, List.set_cons_zero, List.set_cons_succ])))
      refine walkF_lazy (.int .i64 0) rfl rfl (fun _ => by simp [go_sem]) ?_
      simp only [Act.put, List.setIfInBounds_toArray, List.set_cons_zero, List.set_cons_succ]
      refine walkF_nil (end1 (fun q U hq hU bq => ?_))
      simp only [Act.put, List.setIfInBounds_toArray, List.set_cons_zero, List.set_cons_succ]
      (try simp only [List.filterMap_cons, List.filterMap_nil, List.getElem?_toArray, List.getElem?_cons_zero, List.getElem?_cons_succ])
      have hUu : Up V U := hU
      have HU := hide (And.intro hUu bq)
      have bwU := HV.out.2.1.up hUu
      have bdU := HV.out.2.2.1.up hUu
      have b8U := HV.out.2.2.2.1.up hUu
      have b16U := HV.out.2.2.2.2.1.up hUu
      have b18U := HV.out.2.2.2.2.2.up hUu
      have n1 : N ≠ q := by have := HV.out.2.1.lt; omega
      have n2 : N + 1 ≠ q := by have := HV.out.2.2.1.lt; omega
      have n3 : T8 ≠ q := by have := HV.out.2.2.2.1.lt; omega
      have n4 : T16 ≠ q := by have := HV.out.2.2.2.2.1.lt; omega
      have n5 : T18 ≠ q := by have := HV.out.2.2.2.2.2.lt; omega
      have lVq : V.heap.size ≤ q := hq
      have lVU := hUu.below.size
      have cq0 := bq.cell 0 rfl
      have cq1 := bq.cell 1 rfl
      have cq2 := bq.cell 2 rfl
      have cq3 := bq.cell 3 rfl
      have fq0 := bq.frozen 0
      have fq1 := bq.frozen 1
      have fq2 := bq.frozen 2
      have fq3 := bq.frozen 3
      have lq := bq.lt
      clear hU hUu bq KO2 cw0 cw1 lw cd0 cd1 cd2 cd3 cd4 ld cp0 cp1 l18
      have cw0 := bwU.cell 0 rfl
      have cw1 := bwU.cell 1 rfl
      have lw := bwU.lt
      have cd0 := bdU.cell 0 rfl
      have cd1 := bdU.cell 1 rfl
      have cd2 := bdU.cell 2 rfl
      have cd3 := bdU.cell 3 rfl
      have cd4 := bdU.cell 4 rfl
      have ld := bdU.lt
      have cp0 := b18U.cell 0 rfl
      have cp1 := b18U.cell 1 rfl
      have l18 := b18U.lt
      clear bwU bdU b18U b8U b16U
      go_wp2_with fail
      go_at_call 35
      refine forgetC (fun U' => Up V U' ∧ Box U' q #[.int .i64 OV.1, .int .i64 OV.2.1, .int .i64 OV.2.2.1, .int .i64 OV.2.2.2] 38) ⟨?_, ?_⟩ ?_
      · exact (by repeat (first | with_reducible exact HU.out.1 | with_reducible apply Up.ext | with_reducible apply Up.alloc | with_reducible apply Up.drew | (with_reducible refine Up.setCell ?_ (by simp; omega) _)))
      · exact (by (repeat (first | with_reducible apply Box.ext | with_reducible apply Box.alloc | with_reducible apply Box.drew)); exact ((((HU.out.2.set 0 (.int .i64 OV.1)).set 1 (.int .i64 OV.2.1)).set 2 (.int .i64 OV.2.2.1)).set 3 (.int .i64 OV.2.2.2)))
      rintro U' ⟨hUu, bq⟩
      have b8U := HV.out.2.2.2.1.up hUu
      have b16U := HV.out.2.2.2.2.1.up hUu
      have HUw := hide (HV.out.1.trans hUu)
      clear cq0 cq1 cq2 cq3 fq0 fq1 fq2 fq3 lq cw0 cw1 lw cd0 cd1 cd2 cd3 cd4 ld cp0 cp1 l18 HU n1 n2 n3 n4 n5 lVU
      have cq0 := bq.cell 0 rfl
      have cq1 := bq.cell 1 rfl
      have cq2 := bq.cell 2 rfl
      have cq3 := bq.cell 3 rfl
      have lq := bq.lt
      have c80 := b8U.cell 0 rfl
      have c81 := b8U.cell 1 rfl
      have c82 := b8U.cell 2 rfl
      have c83 := b8U.cell 3 rfl
      have l8 := b8U.lt
      have c60 := b16U.cell 0 rfl
      have c61 := b16U.cell 1 rfl
      have c62 := b16U.cell 2 rfl
      have c63 := b16U.cell 3 rfl
      have l16 := b16U.lt
      refine (KP.out _ hUu).mono ?_
      intro pp
      clear hUu bq b8U b16U KP HV
      go_wp2_with (go_at_call 18; (with_reducible refine (awake_any _).mono ?_); intro _)
      go_ret
      exact ⟨rfl, (by repeat (first | with_reducible exact HUw.out | with_reducible exact Up.refl _ | apply Up.ext | apply Up.alloc | apply Up.drew | (refine Up.setCell ?_ (by simp [World.setCell]; try omega) _)))⟩

set_option maxRecDepth 100000 in
theorem fsums_lifted (os : Os) (started : os.Started) (H : Type) (enc : TypeId × Value → H) :
    ReturnsInHanded {} Try.checked os 7 .any (Rows.forceSumsSpec.pre6 enc Try.prog Try.f7 Rows.forceSumsRow.domain false) (Rows.forceSumsSpec.post enc Try.prog Try.f7 false true false false) := by
  refine returnsInHanded_of_change (C := Try.checked) knob_own started (by kernel_rfl) Try.func7
    (ChangeSpec.witness6 (enc := enc) (C := Try.checked) false ⟨#[], #[.slice none 0 0], []⟩ 8 (by kernel_rfl) (by kernel_rfl) (by kernel_rfl) (by kernel_rfl)) ?_
  intro W base args ds gs before hval0 hW _ _
  have hval : ∀ (j : Nat) t v, Try.f7.params[j]? = some t → args[j]? = some v → Value.okWide Try.prog W .any base t v := hval0
  have hW' := hW
  obtain ⟨p, q, hA0, hV, rfl, _, _⟩ := hW
  have hA : DataW.TrodAll enc Try.prog W 0 (fun _ => true) true Try.f7.params.toList args.toList ds p := hA0
  rw [Try.params7] at hA hval
  obtain ⟨v0, vs0, d0, ds0, p0, q0, hargs, rfl, rfl, h0, r0⟩ := trodAll_cons hA
  obtain ⟨rfl, rfl, rfl⟩ := trodAll_nil r0
  obtain rfl : args = #[v0] := by cases args; simp_all
  obtain ⟨rfl, rfl⟩ := trodVars_none hV
  have hlt0 : ∀ x ∈ p0, x.block < W.heap.size := fun x hx => hW'.lt x (by simp [hx])
  obtain ⟨hn0, shut0⟩ := open_nums (hval 0 22 v0 rfl rfl) h0 hlt0
  clear hA0 hval0
  simp only [List.append_nil] at hW'
  refine (fsums_law v0 hn0 ).mono fun px => ?_
  exact ⟨_, rfl, post_of_below (pa := (p0 ++ [])) (pv := []) hW' (fun _ _ _ => (trodAll_cons_mk (shut_bool Try.underlying4 _) trodAll_mk0)) (fun sp hsp => (trodAll_cons_mk (shut0 _ sp (Up.below ⟨px, rfl⟩) (fun x hx => hsp x (by simp [hx]))) trodAll_mk0)) (fun _ _ => rfl) (by simp)
    (Up.below ⟨px, rfl⟩) (ok_one (by kernel_rfl) rfl (okWide_bool_mk Try.underlying4 _))⟩

theorem fsums_holds : Rows.ForceSumsSaid :=
  OpenClaim.holds_of_wide 7 Try.f7 rfl rfl rfl rfl rfl rfl rfl ⟨rfl, rfl, rfl, rfl, rfl⟩ rfl rfl rfl rfl rfl (by kernel_rfl) Try.func7 (by kernel_rfl)
    (of_decide_eq_true (by kernel_rfl)) (by unfold Func.isWrapper; rw [if_neg (by decide +kernel)]; exact ⟨rfl, rfl⟩)
    (fun os started H enc _ => fsums_lifted os started H enc)
#print axioms fsums_holds
end Go.Proofs.Ytbcgdhldkanecaa
