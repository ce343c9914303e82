/- Reference bolideref06: the values of an area. Conditions: a valid offer, bounds. -/
import Derived.Test.YtnaiaodnnmhdkaaGreatVD
import Derived.Test.YtnaiaodnnmhdkaaGreatVF
namespace Go.Proofs.YtnaiaodnnmhdkaaGreat
set_option linter.unusedVariables false
set_option linter.unusedSimpArgs false
open Go.RowKit Go.Shelf

set_option maxRecDepth 100000 in
set_option maxHeartbeats 40000000 in
theorem vvalues_r {K : Nat → Prop} {w : World} {a sa ca : Option Addr} {n c sn sc cn cc : Nat} {s : SkyD} (hL : SkyL K w a n c sa sn sc ca cn cc s) (o : OffD) (he : offE s o = 0) (h2 : o.kind = 2) {x0 x1 y0 y1 : Int} (ha : ABd (x0, x1, y0, y1)) : Gives Tryz.prog 132 #[.agg #[.slice a n c, .int .i64 s.home, .slice sa sn sc, .slice ca cn cc], .agg (offA o), .agg #[.int .i64 (x0), .int .i64 (x1), .int .i64 (y0), .int .i64 (y1)]] w (.agg #[.int .i64 ((clampS (valuesK (kndOf s o) (x0, x1, y0, y1)).1)), .int .i64 ((clampS (valuesK (kndOf s o) (x0, x1, y0, y1)).2))]) := by
  have hk := kbd_of he
  obtain ⟨-, -, -, ee⟩ := knd_wx s o
  have her := hk.err
  rw [ee] at her
  have HN := hide (fun W (hu : Up w W) => vnearest_any (hL.up hu) o he ha)
  have hnb := (sq_bdK hk (near_bd (k := kndOf s o) ha)).2.2.2
  have HNR := hide (fun W => vRoot_eq hnb.1 (by omega) W)
  have hnr := isq_self hnb.1 (by omega)
  have hnr0 := (isq_spec _ hnb.1 (by omega)).1
  have hmb := mostU_bd hk ha 4 (by omega)
  have HMR := hide (fun W => vrootup_any hmb.1 (by omega) W)
  have hmu := upq_spec hmb.1 (by omega)
  have hmi := isq_self hmb.1 (by omega)
  have hmi2 : upq (mostU (kndOf s o) (x0, x1, y0, y1) 4) ≤ isq (mostU (kndOf s o) (x0, x1, y0, y1) 4) + 1 := by unfold upq; split <;> omega
  replace hmu := hmu.1
  have HCL := hide (fun n W => vclamp_any n W)
  have hV : valuesK (kndOf s o) (x0, x1, y0, y1) = (isq (sqK (kndOf s o) (nearK (kndOf s o) (x0, x1, y0, y1))) - o.err, upq (mostU (kndOf s o) (x0, x1, y0, y1) 4) + o.err) := by
    unfold valuesK
    rw [if_neg (by rw [knd_ra h2]; simp), mostU_all, ee]
  rw [hV]
  dsimp only
  have HCO := hide (show ∀ k, k < 4 → ∃ (p : Int × Int) (X Y Q : Int), (cornersA (x0, x1, y0, y1))[k]? = some p ∧ (∀ W, Up w W → Gives Tryz.prog 117 #[.agg #[.slice a n c, .int .i64 s.home, .slice sa sn sc, .slice ca cn cc], .agg (offA o), .agg #[.int .i64 (p.1), .int .i64 (p.2)]] W (.agg #[.int .i64 (X), .int .i64 (Y)])) ∧ (∀ W, Gives Tryz.prog 116 #[.agg #[.int .i64 (X), .int .i64 (Y)]] W (.int .i64 Q)) ∧ (0 ≤ Q ∧ Q ≤ 9290873254707200) ∧ mostU (kndOf s o) (x0, x1, y0, y1) (k + 1) = max (mostU (kndOf s o) (x0, x1, y0, y1) k) Q from fun k hk4 => by
    obtain ⟨p, hp⟩ := corner_at (a := (x0, x1, y0, y1)) hk4
    have hpb : PBd p := (corner_in ha p (List.mem_of_getElem? hp)).bd ha
    have hsq := sq_bdK hk hpb
    exact ⟨p, p.1 - (kndOf s o).wx, p.2 - (kndOf s o).wy, sqK (kndOf s o) p, hp, fun W hu => vto_any (hL.up hu) o he (x := p.1) (y := p.2) hpb, fun W => vsquare_any ⟨by have := hsq.1.1.1; omega, by have := hsq.1.1.2; omega⟩ ⟨by have := hsq.1.2.1; omega, by have := hsq.1.2.2; omega⟩ W, hsq.2.2.2, mostU_succ hp⟩)
  have HM0 : mostU (kndOf s o) (x0, x1, y0, y1) 0 = 0 := rfl
  have HMB := hide (fun k (hk4 : k ≤ 4) => mostU_bd hk ha k hk4)
  have h2b : (o.kind == 2) = true := by simp [h2]
  clear hV hk ee he hL ha h2
  generalize sqK (kndOf s o) (nearK (kndOf s o) (x0, x1, y0, y1)) = QN at *
  generalize mostU (kndOf s o) (x0, x1, y0, y1) = MU at *
  obtain ⟨M4, hM4⟩ : ∃ m, MU 4 = m := ⟨_, rfl⟩
  rw [hM4] at HMR hmb hmu hmi hmi2 ⊢
  generalize isq QN = RN at *
  generalize isq M4 = I4 at *
  generalize upq M4 = U4 at *
  generalize s.home = home at *
  (unfold Gives; go_enter Tryz.func132, Tryz.ntmps132)
  go_wp2_with fail
  go_at_call 131
  refine forgetK (fun V => Up w V ∧ Box V w.heap.size #[.slice a n c, .int .i64 home, .slice sa sn sc, .slice ca cn cc] 28 ∧ Box V (w.heap.size + 1) (offA o) 32 ∧ Box V (w.heap.size + 1 + 1) #[.int .i64 (x0), .int .i64 (x1), .int .i64 (y0), .int .i64 (y1)] 46 ∧ Box V (w.heap.size + 1 + 1 + 1) #[.int .i64 (0), .int .i64 (0)] 38) ⟨(by repeat (first | with_reducible exact Up.refl _ | with_reducible apply Up.plus | apply Up.ext | apply Up.alloc | apply Up.drew | (refine Up.setCell ?_ (by simp; try omega) _))), (by repeat (first | exact Box.mk rfl | (refine Box.mk ?_; simp; done) | apply Box.ext | apply Box.drew | apply Box.alloc | apply Box.two1 | (refine Box.other ?_ (by omega) _ _))), (by repeat (first | exact Box.mk rfl | (refine Box.mk ?_; simp; done) | apply Box.ext | apply Box.drew | apply Box.alloc | apply Box.two1 | (refine Box.other ?_ (by omega) _ _))), (by repeat (first | exact Box.mk rfl | (refine Box.mk ?_; simp; done) | apply Box.ext | apply Box.drew | apply Box.alloc | apply Box.two1 | (refine Box.other ?_ (by omega) _ _))), (by repeat (first | exact Box.mk rfl | (refine Box.mk ?_; simp; done) | apply Box.ext | apply Box.drew | apply Box.alloc | apply Box.two1 | (refine Box.other ?_ (by omega) _ _)))⟩ ?_
  rintro V ⟨hu, b0, b1, b2, b3⟩
  have lz := b3.lt
  have s0 := b0.cell 0 rfl
  have s1 := b0.cell 1 rfl
  have s2 := b0.cell 2 rfl
  have s3 := b0.cell 3 rfl
  have ls := b0.lt
  have f0 := b1.cell 0 rfl
  have f1 := b1.cell 1 rfl
  have f2 := b1.cell 2 rfl
  have f3 := b1.cell 3 rfl
  have f4 := b1.cell 4 rfl
  have f5 := b1.cell 5 rfl
  have f6 := b1.cell 6 rfl
  have f7 := b1.cell 7 rfl
  have f8 := b1.cell 8 rfl
  have f9 := b1.cell 9 rfl
  have f10 := b1.cell 10 rfl
  have lf := b1.lt
  have g0 := b2.cell 0 rfl
  have g1 := b2.cell 1 rfl
  have g2 := b2.cell 2 rfl
  have g3 := b2.cell 3 rfl
  have lg := b2.lt
  have HB := hide (And.intro hu (And.intro b0 (And.intro b1 (And.intro b2 b3))))
  clear hu b0 b1 b2 b3
  refine (vcorners_any _ _ _ _ _).mono ?_
  rintro _ _ ⟨gc, qc, rfl, hgc, hbc, rfl⟩
  have lgc : w.heap.size + 1 + 1 + 1 < gc := by omega
  go_wp2_with fail
  refine forgetW (fun wr => (Up w wr ∧ Box wr w.heap.size #[.slice a n c, .int .i64 home, .slice sa sn sc, .slice ca cn cc] 28 ∧ Box wr (w.heap.size + 1) (offA o) 32 ∧ Box wr (w.heap.size + 1 + 1) #[.int .i64 (x0), .int .i64 (x1), .int .i64 (y0), .int .i64 (y1)] 46 ∧ Box wr (w.heap.size + 1 + 1 + 1) #[.int .i64 (0), .int .i64 (0)] 38) ∧ Box wr gc #[.int .i64 (x0), .int .i64 (y0), .int .i64 (x0), .int .i64 (y1), .int .i64 (x1), .int .i64 (y0), .int .i64 (x1), .int .i64 (y1)] 30) ⟨⟨(by repeat (first | with_reducible exact HB.out.1 | with_reducible exact Up.refl _ | with_reducible apply Up.ext | with_reducible apply Up.alloc | with_reducible apply Up.drew | (with_reducible refine Up.setCell ?_ (by simp only; omega) _))), (by repeat (first | with_reducible exact HB.out.2.1 | with_reducible apply Box.ext | with_reducible apply Box.alloc | with_reducible apply Box.drew | (with_reducible refine Box.other ?_ (by omega) _ _))), (by repeat (first | with_reducible exact HB.out.2.2.1 | with_reducible apply Box.ext | with_reducible apply Box.alloc | with_reducible apply Box.drew | (with_reducible refine Box.other ?_ (by omega) _ _))), (by repeat (first | with_reducible exact HB.out.2.2.2.1 | with_reducible apply Box.ext | with_reducible apply Box.alloc | with_reducible apply Box.drew | (with_reducible refine Box.other ?_ (by omega) _ _))), (by repeat (first | with_reducible exact HB.out.2.2.2.2 | with_reducible apply Box.ext | with_reducible apply Box.alloc | with_reducible apply Box.drew | (with_reducible refine Box.other ?_ (by omega) _ _)))⟩, by (first | exact hbc | (rw [← ext_ext]; exact hbc))⟩ ?_
  intro U0 hU0
  have H0 := hide hU0
  clear hU0 hbc hgc HB s0 s1 s2 s3 ls f0 f1 f2 f3 f4 f5 f6 f7 f8 f9 f10 lf g0 g1 g2 g3 lg lz
  go_loopw [8, 9] (fun s8 s9 wr => ∃ k : Nat, k ≤ 4 ∧ s8 = .int .i64 (MU k) ∧ s9 = .int .i64 k ∧ Hid ((Up w wr ∧ Box wr w.heap.size #[.slice a n c, .int .i64 home, .slice sa sn sc, .slice ca cn cc] 28 ∧ Box wr (w.heap.size + 1) (offA o) 32 ∧ Box wr (w.heap.size + 1 + 1) #[.int .i64 (x0), .int .i64 (x1), .int .i64 (y0), .int .i64 (y1)] 46 ∧ Box wr (w.heap.size + 1 + 1 + 1) #[.int .i64 (0), .int .i64 (0)] 38) ∧ Box wr gc #[.int .i64 (x0), .int .i64 (y0), .int .i64 (x0), .int .i64 (y1), .int .i64 (x1), .int .i64 (y0), .int .i64 (x1), .int .i64 (y1)] 30)) (fun _ s9 _ => 4 - (intOf s9).toNat)
  case atStart => exact ⟨0, by omega, by rw [HM0], rfl, H0⟩
  case round =>
    obtain ⟨k, hk4, rfl, rfl, HI⟩ := hrel
    clear H0
    have s0 := HI.out.1.2.1.cell 0 rfl
    have s1 := HI.out.1.2.1.cell 1 rfl
    have s2 := HI.out.1.2.1.cell 2 rfl
    have s3 := HI.out.1.2.1.cell 3 rfl
    have ls := HI.out.1.2.1.lt
    have f0 := HI.out.1.2.2.1.cell 0 rfl
    have f1 := HI.out.1.2.2.1.cell 1 rfl
    have f2 := HI.out.1.2.2.1.cell 2 rfl
    have f3 := HI.out.1.2.2.1.cell 3 rfl
    have f4 := HI.out.1.2.2.1.cell 4 rfl
    have f5 := HI.out.1.2.2.1.cell 5 rfl
    have f6 := HI.out.1.2.2.1.cell 6 rfl
    have f7 := HI.out.1.2.2.1.cell 7 rfl
    have f8 := HI.out.1.2.2.1.cell 8 rfl
    have f9 := HI.out.1.2.2.1.cell 9 rfl
    have f10 := HI.out.1.2.2.1.cell 10 rfl
    have lf := HI.out.1.2.2.1.lt
    have g0 := HI.out.1.2.2.2.1.cell 0 rfl
    have g1 := HI.out.1.2.2.2.1.cell 1 rfl
    have g2 := HI.out.1.2.2.2.1.cell 2 rfl
    have g3 := HI.out.1.2.2.2.1.cell 3 rfl
    have lg := HI.out.1.2.2.2.1.lt
    have lz := HI.out.1.2.2.2.2.lt
    have lc := HI.out.2.lt
    by_cases hlt : k < 4
    · have hkb : decide ((k : Int) < 4) = true := by simp; omega
      have hkn : decide (k < 4) = true := by simp; omega
      obtain ⟨p, X, Y, Q, hp, hto, hsq, hQ, hm⟩ := HCO.out k hlt
      obtain ⟨cc0, cc1⟩ := corner_cells hp
      have c0 := HI.out.2.cell _ cc0
      have c1 := HI.out.2.cell _ cc1
      obtain ⟨px, py⟩ := p
      dsimp only at c0 c1 hto
      have HTO := hide hto
      have HSQ := hide hsq
      have HMS := hide hm
      have hmk := HMB.out k (by omega)
      clear hto hsq hm cc0 cc1 hp
      go_wp2_with fail
      ((first | with_reducible refine wp_region_ext2 (by kernel_rfl) (by kernel_rfl) ?_ | refine wp_region_ext (by kernel_rfl) (by kernel_rfl) ?_); (repeat (go_big_quiet_step ((first | (go_at_call 117; with_reducible exact Gives.inRegion (HTO.out _ (HI.out.1.1.ext _))) | (go_at_call 116; with_reducible exact Gives.inRegion (HSQ.out _)))))); refine wpQuiet_nil ?_; intro _ hw'; obtain ⟨_, hw''⟩ := hw'; subst hw'')
      go_wp2_with fail
      go_roundw
      case rel => exact ⟨k + 1, by omega, by rw [HMS.out], by go_num, hide ⟨⟨(by repeat (first | with_reducible exact HI.out.1.1 | with_reducible exact Up.refl _ | with_reducible apply Up.ext | with_reducible apply Up.alloc | with_reducible apply Up.drew | (with_reducible refine Up.setCell ?_ (by simp only; omega) _))), (by repeat (first | with_reducible exact HI.out.1.2.1 | with_reducible apply Box.ext | with_reducible apply Box.alloc | with_reducible apply Box.drew | (with_reducible refine Box.other ?_ (by omega) _ _))), (by repeat (first | with_reducible exact HI.out.1.2.2.1 | with_reducible apply Box.ext | with_reducible apply Box.alloc | with_reducible apply Box.drew | (with_reducible refine Box.other ?_ (by omega) _ _))), (by repeat (first | with_reducible exact HI.out.1.2.2.2.1 | with_reducible apply Box.ext | with_reducible apply Box.alloc | with_reducible apply Box.drew | (with_reducible refine Box.other ?_ (by omega) _ _))), (by repeat (first | with_reducible exact HI.out.1.2.2.2.2 | with_reducible apply Box.ext | with_reducible apply Box.alloc | with_reducible apply Box.drew | (with_reducible refine Box.other ?_ (by omega) _ _)))⟩, (by repeat (first | with_reducible exact HI.out.2 | with_reducible apply Box.ext | with_reducible apply Box.alloc | with_reducible apply Box.drew | (with_reducible refine Box.other ?_ (by omega) _ _)))⟩⟩
      case measure => simp [intOf]; omega
    · obtain rfl : k = 4 := by omega
      rw [hM4]
      have z0 := HI.out.1.2.2.2.2.cell 0 rfl
      have z1 := HI.out.1.2.2.2.2.cell 1 rfl
      have fz0 := HI.out.1.2.2.2.2.frozen 0
      have fz1 := HI.out.1.2.2.2.2.frozen 1
      have HB := hide (And.intro HI.out.1.1 HI.out.1.2.2.2.2)
      go_wp2_with fail
      ((first | with_reducible refine wp_region_ext_tail2 1 (by kernel_rfl) (by kernel_rfl) ?_ | refine wp_region_ext_tail 1 (by kernel_rfl) (by kernel_rfl) ?_); simp only [List.length_cons, List.length_nil, Nat.reduceAdd, Nat.reduceSub, List.take_succ_cons, List.take_zero, List.drop_succ_cons, List.drop_zero]; (repeat (go_big_quiet_step ((first | (go_at_call 168; with_reducible exact Gives.inRegion (HN.out _ (HB.out.1.ext _))) | (go_at_call 119; with_reducible exact Gives.inRegion (HNR.out _)) | (go_at_call 118; with_reducible exact Gives.inRegion (HMR.out _)) | (go_at_call 169; with_reducible exact Gives.inRegion (HCL.out _ _)))))); refine wpQuiet_nil ?_; intro _ hw'; obtain ⟨_, hw''⟩ := hw'; subst hw'')
      go_wp2
      refine forgetW (fun WF => Up w WF ∧ Box WF (w.heap.size + 1 + 1 + 1) #[.int .i64 ((clampS (RN - o.err))), .int .i64 ((clampS (U4 + o.err)))] 38) ⟨(by repeat (first | with_reducible exact HB.out.1 | with_reducible exact Up.refl _ | with_reducible apply Up.ext | with_reducible apply Up.alloc | with_reducible apply Up.drew | (with_reducible refine Up.setCell ?_ (by simp only; omega) _))), ?_⟩ ?_
      · exact (by (repeat (first | with_reducible apply Box.ext | with_reducible apply Box.alloc | with_reducible apply Box.drew)); exact ((HB.out.2.set 0 (.int .i64 (clampS (RN - o.err)))).set 1 (.int .i64 (clampS (U4 + o.err)))))
      rintro WF ⟨huF, hbF⟩
      have w0 := hbF.cell 0 rfl
      have w1 := hbF.cell 1 rfl
      (refine bodyPost_give huF rfl ⟨_, (by simp [results, Tryz.results132, go_sem, w0, w1]; rfl), ?_⟩)
      rfl
set_option maxRecDepth 100000 in
set_option maxHeartbeats 40000000 in
theorem vvalues_s {K : Nat → Prop} {w : World} {a sa ca : Option Addr} {n c sn sc cn cc : Nat} {s : SkyD} (hL : SkyL K w a n c sa sn sc ca cn cc s) (o : OffD) (he : offE s o = 0) (h2 : ¬ o.kind = 2) {x0 x1 y0 y1 : Int} (ha : ABd (x0, x1, y0, y1)) : Gives Tryz.prog 132 #[.agg #[.slice a n c, .int .i64 s.home, .slice sa sn sc, .slice ca cn cc], .agg (offA o), .agg #[.int .i64 (x0), .int .i64 (x1), .int .i64 (y0), .int .i64 (y1)]] w (.agg #[.int .i64 ((clampS (valuesK (kndOf s o) (x0, x1, y0, y1)).1)), .int .i64 ((clampS (valuesK (kndOf s o) (x0, x1, y0, y1)).2))]) := by
  have hk := kbd_of he
  obtain ⟨-, -, -, ee⟩ := knd_wx s o
  have her := hk.err
  have hbi := hk.bias
  obtain ⟨e0, -, -, -, -, -⟩ := knd_sc (s := s) h2
  have HCL := hide (fun n W => vclamp_any n W)
  have HBI := hide (fun W (hu : Up w W) => vbias_eq (a := a) (n := n) (c := c) (sa := sa) (sn := sn) (sc := sc) (home := s.home) (hL.up hu).ca (bias_knd he h2))
  have HCO := hide (show ∀ k, k < 4 → ∃ (p : Int × Int) (C D : Int), (cornersA (x0, x1, y0, y1))[k]? = some p ∧ (∀ W, Up w W → Gives Tryz.prog 120 #[.agg #[.slice a n c, .int .i64 s.home, .slice sa sn sc, .slice ca cn cc], .agg (offA o), .agg #[.int .i64 (p.1), .int .i64 (p.2)]] W (.tuple #[.int .i64 C, .int .i64 D])) ∧ D = doK (kndOf s o) p ∧
      (0 < D → ∃ S1 S2 : Int, (∀ W, Gives Tryz.prog 123 #[.int .i64 C, .int .i64 D] W (.int .i64 S1)) ∧ (∀ W, Gives Tryz.prog 122 #[.int .i64 C, .int .i64 D] W (.int .i64 S2)) ∧ (-1152921504606846976 ≤ S1 ∧ S1 ≤ 1152921504606846976) ∧ (-1152921504606846976 ≤ S2 ∧ S2 ≤ 1152921504606846976) ∧
        loU (kndOf s o) (x0, x1, y0, y1) (k + 1) = min (loU (kndOf s o) (x0, x1, y0, y1) k) (clampS (S1 - (kndOf s o).hi - (kndOf s o).err)) ∧ hiU (kndOf s o) (x0, x1, y0, y1) (k + 1) = max (hiU (kndOf s o) (x0, x1, y0, y1) k) (clampS (S2 - (kndOf s o).lo + (kndOf s o).err))) from fun k hk4 => by
    obtain ⟨p, hp⟩ := corner_at (a := (x0, x1, y0, y1)) hk4
    have hpb : PBd p := (corner_in ha p (List.mem_of_getElem? hp)).bd ha
    have hcr := (cr_bdK hk hpb).2.2
    refine ⟨p, 1000000 * crK (kndOf s o) p, doK (kndOf s o) p, hp, fun W hu => vslope_any (hL.up hu) o he h2 (x := p.1) (y := p.2) hpb, rfl, fun hd => ?_⟩
    have hmd := mdE_bdd hk hpb hd
    exact ⟨(slopeK (kndOf s o) p).1, (slopeK (kndOf s o) p).2, fun W => vfloor_any (a := 1000000 * crK (kndOf s o) p) hd (by omega) (by omega) W, fun W => vceil_any (a := 1000000 * crK (kndOf s o) p) hd (by omega) (by omega) W, hmd.1, hmd.2, loU_succ hp, hiU_succ hp⟩)
  have HL0 : loU (kndOf s o) (x0, x1, y0, y1) 0 = 1099511627776 := rfl
  have HH0 : hiU (kndOf s o) (x0, x1, y0, y1) 0 = -1099511627776 := rfl
  have HLB := hide (fun k (hk4 : k ≤ 4) => lohi_bd (kndOf s o) (x0, x1, y0, y1) k hk4)
  have HLA := loU_all (kndOf s o) (x0, x1, y0, y1)
  have HHA := hiU_all (kndOf s o) (x0, x1, y0, y1)
  obtain ⟨R1, hR1⟩ : ∃ x, clampS (valuesK (kndOf s o) (x0, x1, y0, y1)).1 = x := ⟨_, rfl⟩
  obtain ⟨R2, hR2⟩ : ∃ x, clampS (valuesK (kndOf s o) (x0, x1, y0, y1)).2 = x := ⟨_, rfl⟩
  have HYES := hide (show noneYet (fun p => decide (doK (kndOf s o) p ≤ 0)) (cornersA (x0, x1, y0, y1)) 4 → loU (kndOf s o) (x0, x1, y0, y1) 4 = R1 ∧ hiU (kndOf s o) (x0, x1, y0, y1) 4 = R2 from fun h => by
    rw [HLA, HHA, ← hR1, ← hR2]
    unfold valuesK
    rw [if_pos e0, if_pos (front_yet h)]
    exact ⟨rfl, rfl⟩)
  have HNO := hide (show ∀ (k : Nat) (p : Int × Int), (cornersA (x0, x1, y0, y1))[k]? = some p → doK (kndOf s o) p ≤ 0 → R1 = -1099511627776 ∧ R2 = 1099511627776 from fun k p hp hd => by
    rw [← hR1, ← hR2]
    unfold valuesK
    rw [if_pos e0, if_neg (by rw [front_not (List.mem_of_getElem? hp) hd]; simp)]
    exact ⟨rfl, rfl⟩)
  rw [hR1, hR2]
  rw [ee] at her HCO
  have h2b : (o.kind == 2) = false := by simp [h2]
  clear hR1 hR2 HLA HHA hk ee he hL ha h2 e0
  generalize loU (kndOf s o) (x0, x1, y0, y1) = LU at *
  generalize hiU (kndOf s o) (x0, x1, y0, y1) = HU at *
  generalize doK (kndOf s o) = DK at *
  generalize (kndOf s o).lo = lo at *
  generalize (kndOf s o).hi = hi at *
  generalize s.home = home at *
  (unfold Gives; go_enter Tryz.func132, Tryz.ntmps132)
  go_wp2_with fail
  go_at_call 131
  refine forgetK (fun V => Up w V ∧ Box V w.heap.size #[.slice a n c, .int .i64 home, .slice sa sn sc, .slice ca cn cc] 28 ∧ Box V (w.heap.size + 1) (offA o) 32 ∧ Box V (w.heap.size + 1 + 1) #[.int .i64 (x0), .int .i64 (x1), .int .i64 (y0), .int .i64 (y1)] 46 ∧ Box V (w.heap.size + 1 + 1 + 1) #[.int .i64 (0), .int .i64 (0)] 38) ⟨(by repeat (first | with_reducible exact Up.refl _ | with_reducible apply Up.plus | apply Up.ext | apply Up.alloc | apply Up.drew | (refine Up.setCell ?_ (by simp; try omega) _))), (by repeat (first | exact Box.mk rfl | (refine Box.mk ?_; simp; done) | apply Box.ext | apply Box.drew | apply Box.alloc | apply Box.two1 | (refine Box.other ?_ (by omega) _ _))), (by repeat (first | exact Box.mk rfl | (refine Box.mk ?_; simp; done) | apply Box.ext | apply Box.drew | apply Box.alloc | apply Box.two1 | (refine Box.other ?_ (by omega) _ _))), (by repeat (first | exact Box.mk rfl | (refine Box.mk ?_; simp; done) | apply Box.ext | apply Box.drew | apply Box.alloc | apply Box.two1 | (refine Box.other ?_ (by omega) _ _))), (by repeat (first | exact Box.mk rfl | (refine Box.mk ?_; simp; done) | apply Box.ext | apply Box.drew | apply Box.alloc | apply Box.two1 | (refine Box.other ?_ (by omega) _ _)))⟩ ?_
  rintro V ⟨hu, b0, b1, b2, b3⟩
  have lz := b3.lt
  have s0 := b0.cell 0 rfl
  have s1 := b0.cell 1 rfl
  have s2 := b0.cell 2 rfl
  have s3 := b0.cell 3 rfl
  have ls := b0.lt
  have f0 := b1.cell 0 rfl
  have f1 := b1.cell 1 rfl
  have f2 := b1.cell 2 rfl
  have f3 := b1.cell 3 rfl
  have f4 := b1.cell 4 rfl
  have f5 := b1.cell 5 rfl
  have f6 := b1.cell 6 rfl
  have f7 := b1.cell 7 rfl
  have f8 := b1.cell 8 rfl
  have f9 := b1.cell 9 rfl
  have f10 := b1.cell 10 rfl
  have lf := b1.lt
  have g0 := b2.cell 0 rfl
  have g1 := b2.cell 1 rfl
  have g2 := b2.cell 2 rfl
  have g3 := b2.cell 3 rfl
  have lg := b2.lt
  have HB := hide (And.intro hu (And.intro b0 (And.intro b1 (And.intro b2 b3))))
  clear hu b0 b1 b2 b3
  refine (vcorners_any _ _ _ _ _).mono ?_
  rintro _ _ ⟨gc, qc, rfl, hgc, hbc, rfl⟩
  have lgc : w.heap.size + 1 + 1 + 1 < gc := by omega
  go_wp2_with fail
  go_at_call 121
  obtain ⟨go, hgo⟩ : ∃ go, go = V.heap.size + qc.os.size := ⟨_, rfl⟩
  rw [← hgo]
  have lgo : w.heap.size + 1 + 1 + 1 < go := by omega
  have lgc2 : gc < go := by rw [hgo, ← ext_size]; exact hbc.lt
  refine forgetK (fun wr => (Up w wr ∧ Box wr w.heap.size #[.slice a n c, .int .i64 home, .slice sa sn sc, .slice ca cn cc] 28 ∧ Box wr (w.heap.size + 1) (offA o) 32 ∧ Box wr (w.heap.size + 1 + 1) #[.int .i64 (x0), .int .i64 (x1), .int .i64 (y0), .int .i64 (y1)] 46 ∧ Box wr (w.heap.size + 1 + 1 + 1) #[.int .i64 (0), .int .i64 (0)] 38) ∧ Box wr gc #[.int .i64 (x0), .int .i64 (y0), .int .i64 (x0), .int .i64 (y1), .int .i64 (x1), .int .i64 (y0), .int .i64 (x1), .int .i64 (y1)] 30 ∧ Box wr go #[.int .i64 (1099511627776), .int .i64 (-1099511627776)] 38) ⟨⟨(by repeat (first | with_reducible exact HB.out.1 | with_reducible exact Up.refl _ | with_reducible apply Up.ext | with_reducible apply Up.alloc | with_reducible apply Up.drew | (with_reducible refine Up.setCell ?_ (by simp only; omega) _))), (by repeat (first | with_reducible exact HB.out.2.1 | with_reducible apply Box.ext | with_reducible apply Box.alloc | with_reducible apply Box.drew | (with_reducible refine Box.other ?_ (by omega) _ _))), (by repeat (first | with_reducible exact HB.out.2.2.1 | with_reducible apply Box.ext | with_reducible apply Box.alloc | with_reducible apply Box.drew | (with_reducible refine Box.other ?_ (by omega) _ _))), (by repeat (first | with_reducible exact HB.out.2.2.2.1 | with_reducible apply Box.ext | with_reducible apply Box.alloc | with_reducible apply Box.drew | (with_reducible refine Box.other ?_ (by omega) _ _))), (by repeat (first | with_reducible exact HB.out.2.2.2.2 | with_reducible apply Box.ext | with_reducible apply Box.alloc | with_reducible apply Box.drew | (with_reducible refine Box.other ?_ (by omega) _ _)))⟩, hbc.alloc _, by rw [hgo]; exact Box.mk (ext_size _ _)⟩ ?_
  rintro V2 ⟨⟨hu, b0, b1, b2, b3⟩, bc, bo⟩
  have HB2 := hide (And.intro (And.intro hu (And.intro b0 (And.intro b1 (And.intro b2 b3)))) (And.intro bc bo))
  have lgo2 := bo.lt
  clear hu b0 b1 b2 b3 bc bo hbc hgc HB hgo s0 s1 s2 s3 ls f0 f1 f2 f3 f4 f5 f6 f7 f8 f9 f10 lf g0 g1 g2 g3 lg
  refine (HBI.out _ HB2.out.1.1).mono ?_
  intro qb
  go_wp2_with fail
  obtain ⟨gb, hgb⟩ : ∃ gb, gb = V2.heap.size + qb.os.size := ⟨_, rfl⟩
  rw [← hgb]
  have lgb : go < gb := by omega
  refine forgetW (fun wr => (Up w wr ∧ Box wr w.heap.size #[.slice a n c, .int .i64 home, .slice sa sn sc, .slice ca cn cc] 28 ∧ Box wr (w.heap.size + 1) (offA o) 32 ∧ Box wr (w.heap.size + 1 + 1) #[.int .i64 (x0), .int .i64 (x1), .int .i64 (y0), .int .i64 (y1)] 46 ∧ Box wr (w.heap.size + 1 + 1 + 1) #[.int .i64 (0), .int .i64 (0)] 38) ∧ Box wr gc #[.int .i64 (x0), .int .i64 (y0), .int .i64 (x0), .int .i64 (y1), .int .i64 (x1), .int .i64 (y0), .int .i64 (x1), .int .i64 (y1)] 30 ∧ Box wr go #[.int .i64 (1099511627776), .int .i64 (-1099511627776)] 38 ∧ Box wr gb #[.int .i64 (lo), .int .i64 (hi)] 38) ⟨⟨(by repeat (first | with_reducible exact HB2.out.1.1 | with_reducible exact Up.refl _ | with_reducible apply Up.ext | with_reducible apply Up.alloc | with_reducible apply Up.drew | (with_reducible refine Up.setCell ?_ (by simp only; omega) _))), (by repeat (first | with_reducible exact HB2.out.1.2.1 | with_reducible apply Box.ext | with_reducible apply Box.alloc | with_reducible apply Box.drew | (with_reducible refine Box.other ?_ (by omega) _ _))), (by repeat (first | with_reducible exact HB2.out.1.2.2.1 | with_reducible apply Box.ext | with_reducible apply Box.alloc | with_reducible apply Box.drew | (with_reducible refine Box.other ?_ (by omega) _ _))), (by repeat (first | with_reducible exact HB2.out.1.2.2.2.1 | with_reducible apply Box.ext | with_reducible apply Box.alloc | with_reducible apply Box.drew | (with_reducible refine Box.other ?_ (by omega) _ _))), (by repeat (first | with_reducible exact HB2.out.1.2.2.2.2 | with_reducible apply Box.ext | with_reducible apply Box.alloc | with_reducible apply Box.drew | (with_reducible refine Box.other ?_ (by omega) _ _)))⟩, (by repeat (first | with_reducible exact HB2.out.2.1 | with_reducible apply Box.ext | with_reducible apply Box.alloc | with_reducible apply Box.drew | (with_reducible refine Box.other ?_ (by omega) _ _))), (by repeat (first | with_reducible exact HB2.out.2.2 | with_reducible apply Box.ext | with_reducible apply Box.alloc | with_reducible apply Box.drew | (with_reducible refine Box.other ?_ (by omega) _ _))), by rw [hgb]; exact Box.mk (ext_size _ _)⟩ ?_
  intro U0 hU0
  have H0 := hide (And.intro hU0 (show noneYet (fun p => decide (DK p ≤ 0)) (cornersA (x0, x1, y0, y1)) 0 from fun i p hi _ => by omega))
  clear hU0 HB2 hgb
  go_loopw [13] (fun s13 wr => ∃ k : Nat, k ≤ 4 ∧ s13 = .int .i64 k ∧ Hid (((Up w wr ∧ Box wr w.heap.size #[.slice a n c, .int .i64 home, .slice sa sn sc, .slice ca cn cc] 28 ∧ Box wr (w.heap.size + 1) (offA o) 32 ∧ Box wr (w.heap.size + 1 + 1) #[.int .i64 (x0), .int .i64 (x1), .int .i64 (y0), .int .i64 (y1)] 46 ∧ Box wr (w.heap.size + 1 + 1 + 1) #[.int .i64 (0), .int .i64 (0)] 38) ∧ Box wr gc #[.int .i64 (x0), .int .i64 (y0), .int .i64 (x0), .int .i64 (y1), .int .i64 (x1), .int .i64 (y0), .int .i64 (x1), .int .i64 (y1)] 30 ∧ Box wr go #[.int .i64 ((LU k)), .int .i64 ((HU k))] 38 ∧ Box wr gb #[.int .i64 (lo), .int .i64 (hi)] 38) ∧ noneYet (fun p => decide (DK p ≤ 0)) (cornersA (x0, x1, y0, y1)) k)) (fun s13 _ => 4 - (intOf s13).toNat)
  case atStart => exact ⟨0, by omega, rfl, by rw [HL0, HH0]; exact H0⟩
  case round =>
    obtain ⟨k, hk4, rfl, HI⟩ := hrel
    clear H0
    have s0 := HI.out.1.1.2.1.cell 0 rfl
    have s1 := HI.out.1.1.2.1.cell 1 rfl
    have s2 := HI.out.1.1.2.1.cell 2 rfl
    have s3 := HI.out.1.1.2.1.cell 3 rfl
    have ls := HI.out.1.1.2.1.lt
    have f0 := HI.out.1.1.2.2.1.cell 0 rfl
    have f1 := HI.out.1.1.2.2.1.cell 1 rfl
    have f2 := HI.out.1.1.2.2.1.cell 2 rfl
    have f3 := HI.out.1.1.2.2.1.cell 3 rfl
    have f4 := HI.out.1.1.2.2.1.cell 4 rfl
    have f5 := HI.out.1.1.2.2.1.cell 5 rfl
    have f6 := HI.out.1.1.2.2.1.cell 6 rfl
    have f7 := HI.out.1.1.2.2.1.cell 7 rfl
    have f8 := HI.out.1.1.2.2.1.cell 8 rfl
    have f9 := HI.out.1.1.2.2.1.cell 9 rfl
    have f10 := HI.out.1.1.2.2.1.cell 10 rfl
    have lf := HI.out.1.1.2.2.1.lt
    have g0 := HI.out.1.1.2.2.2.1.cell 0 rfl
    have g1 := HI.out.1.1.2.2.2.1.cell 1 rfl
    have g2 := HI.out.1.1.2.2.2.1.cell 2 rfl
    have g3 := HI.out.1.1.2.2.2.1.cell 3 rfl
    have lg := HI.out.1.1.2.2.2.1.lt
    have q0 := HI.out.1.2.2.1.cell 0 rfl
    have q1 := HI.out.1.2.2.1.cell 1 rfl
    have lq := HI.out.1.2.2.1.lt
    have fq0 := HI.out.1.2.2.1.frozen 0
    have fq1 := HI.out.1.2.2.1.frozen 1
    have b0 := HI.out.1.2.2.2.cell 0 rfl
    have b1 := HI.out.1.2.2.2.cell 1 rfl
    have lb := HI.out.1.2.2.2.lt
    have lz := HI.out.1.1.2.2.2.2.lt
    have z0 := HI.out.1.1.2.2.2.2.cell 0 rfl
    have z1 := HI.out.1.1.2.2.2.2.cell 1 rfl
    have fz0 := HI.out.1.1.2.2.2.2.frozen 0
    have fz1 := HI.out.1.1.2.2.2.2.frozen 1
    have lc := HI.out.1.2.1.lt
    by_cases hlt : k < 4
    · have hkb : decide ((k : Int) < 4) = true := by simp; omega
      have hkn : decide (k < 4) = true := by simp; omega
      obtain ⟨p, C, D, hp, hsl, hD, hF⟩ := HCO.out k hlt
      have HP := hide hp
      obtain ⟨cc0, cc1⟩ := corner_cells hp
      have c0 := HI.out.1.2.1.cell _ cc0
      have c1 := HI.out.1.2.1.cell _ cc1
      have hlh := HLB.out k (by omega)
      have HD := hide hD
      obtain ⟨px, py⟩ := p
      dsimp only at c0 c1 hsl
      have HSL := hide hsl
      clear hsl cc0 cc1 hp hD
      by_cases q1 : D ≤ 0
      · obtain ⟨r1, r2⟩ := HNO.out k (px, py) HP.out (by have := HD.out; omega)
        clear hF
        have HR1 := hide r1
        have HR2 := hide r2
        clear r1 r2
        go_wp2_with fail
        ((first | with_reducible refine wp_region_ext2 (by kernel_rfl) (by kernel_rfl) ?_ | refine wp_region_ext (by kernel_rfl) (by kernel_rfl) ?_); (repeat (go_big_quiet_step ((go_at_call 120; with_reducible exact Gives.inRegion (HSL.out _ (HI.out.1.1.1.ext _)))))); refine wpQuiet_nil ?_; intro _ hw'; obtain ⟨_, hw''⟩ := hw'; subst hw'')
        go_wp2
        refine forgetW (fun WF => Up w WF ∧ Box WF (w.heap.size + 1 + 1 + 1) #[.int .i64 (-1099511627776), .int .i64 (1099511627776)] 38) ⟨(by repeat (first | with_reducible exact HI.out.1.1.1 | with_reducible exact Up.refl _ | with_reducible apply Up.ext | with_reducible apply Up.alloc | with_reducible apply Up.drew | (with_reducible refine Up.setCell ?_ (by simp only; omega) _))), ?_⟩ ?_
        · exact (by (repeat (first | with_reducible apply Box.ext | with_reducible apply Box.alloc | with_reducible apply Box.drew)); exact ((HI.out.1.1.2.2.2.2.set 0 (.int .i64 (-1099511627776))).set 1 (.int .i64 1099511627776)))
        rintro WF ⟨huF, hbF⟩
        have w0 := hbF.cell 0 rfl
        have w1 := hbF.cell 1 rfl
        (refine bodyPost_give huF rfl ⟨_, (by simp [results, Tryz.results132, go_sem, w0, w1]; rfl), ?_⟩)
        rw [HR1.out, HR2.out]
      · obtain ⟨S1, S2, hfl, hce, hs1, hs2, hlo, hhi⟩ := hF (by omega)
        have HFL := hide hfl
        have HCE := hide hce
        have HLO := hide hlo
        have HHI := hide hhi
        clear hfl hce hlo hhi hF
        go_wp2_with fail
        ((first | with_reducible refine wp_region_ext2 (by kernel_rfl) (by kernel_rfl) ?_ | refine wp_region_ext (by kernel_rfl) (by kernel_rfl) ?_); (repeat (go_big_quiet_step ((go_at_call 120; with_reducible exact Gives.inRegion (HSL.out _ (HI.out.1.1.1.ext _)))))); refine wpQuiet_nil ?_; intro _ hw'; obtain ⟨_, hw''⟩ := hw'; subst hw'')
        go_wp2_with fail
        ((first | with_reducible refine wp_region_ext_tail2 1 (by kernel_rfl) (by kernel_rfl) ?_ | refine wp_region_ext_tail 1 (by kernel_rfl) (by kernel_rfl) ?_); simp only [List.length_cons, List.length_nil, Nat.reduceAdd, Nat.reduceSub, List.take_succ_cons, List.take_zero, List.drop_succ_cons, List.drop_zero]; (repeat (go_big_quiet_step ((first | (go_at_call 123; with_reducible exact Gives.inRegion (HFL.out _)) | (go_at_call 169; with_reducible exact Gives.inRegion (HCL.out _ _)))))); refine wpQuiet_nil ?_; intro _ hw'; obtain ⟨_, hw''⟩ := hw'; subst hw'')
        have n1 : w.heap.size ≠ go := by omega
        have n2 : w.heap.size + 1 ≠ go := by omega
        have n3 : w.heap.size + 1 + 1 ≠ go := by omega
        have n4 : w.heap.size + 1 + 1 + 1 ≠ go := by omega
        have n5 : gc ≠ go := by omega
        go_wp2_with fail
        refine forgetW (fun wr => (Up w wr ∧ Box wr w.heap.size #[.slice a n c, .int .i64 home, .slice sa sn sc, .slice ca cn cc] 28 ∧ Box wr (w.heap.size + 1) (offA o) 32 ∧ Box wr (w.heap.size + 1 + 1) #[.int .i64 (x0), .int .i64 (x1), .int .i64 (y0), .int .i64 (y1)] 46 ∧ Box wr (w.heap.size + 1 + 1 + 1) #[.int .i64 (0), .int .i64 (0)] 38) ∧ Box wr gc #[.int .i64 (x0), .int .i64 (y0), .int .i64 (x0), .int .i64 (y1), .int .i64 (x1), .int .i64 (y0), .int .i64 (x1), .int .i64 (y1)] 30 ∧ Box wr go #[.int .i64 ((min (LU k) (clampS (S1 - hi - o.err)))), .int .i64 ((HU k))] 38 ∧ Box wr gb #[.int .i64 (lo), .int .i64 (hi)] 38) ⟨⟨(by repeat (first | with_reducible exact HI.out.1.1.1 | with_reducible exact Up.refl _ | with_reducible apply Up.ext | with_reducible apply Up.alloc | with_reducible apply Up.drew | (with_reducible refine Up.setCell ?_ (by simp only; omega) _))), (by repeat (first | with_reducible exact HI.out.1.1.2.1 | with_reducible apply Box.ext | with_reducible apply Box.alloc | with_reducible apply Box.drew | (with_reducible refine Box.other ?_ (by omega) _ _))), (by repeat (first | with_reducible exact HI.out.1.1.2.2.1 | with_reducible apply Box.ext | with_reducible apply Box.alloc | with_reducible apply Box.drew | (with_reducible refine Box.other ?_ (by omega) _ _))), (by repeat (first | with_reducible exact HI.out.1.1.2.2.2.1 | with_reducible apply Box.ext | with_reducible apply Box.alloc | with_reducible apply Box.drew | (with_reducible refine Box.other ?_ (by omega) _ _))), (by repeat (first | with_reducible exact HI.out.1.1.2.2.2.2 | with_reducible apply Box.ext | with_reducible apply Box.alloc | with_reducible apply Box.drew | (with_reducible refine Box.other ?_ (by omega) _ _)))⟩, (by repeat (first | with_reducible exact HI.out.1.2.1 | with_reducible apply Box.ext | with_reducible apply Box.alloc | with_reducible apply Box.drew | (with_reducible refine Box.other ?_ (by omega) _ _))), ?_, (by repeat (first | with_reducible exact HI.out.1.2.2.2 | with_reducible apply Box.ext | with_reducible apply Box.alloc | with_reducible apply Box.drew | (with_reducible refine Box.other ?_ (by omega) _ _)))⟩ ?_
        · exact (by (repeat (first | with_reducible apply Box.ext | with_reducible apply Box.alloc | with_reducible apply Box.drew)); exact (HI.out.1.2.2.1.set 0 (.int .i64 (min (LU k) (clampS (S1 - hi - o.err))))))
        clear s0 s1 s2 s3 ls f0 f1 f2 f3 f4 f5 f6 f7 f8 f9 f10 lf g0 g1 g2 g3 lg q0 q1 lq fq0 fq1 b0 b1 lb lz z0 z1 fz0 fz1 lc c0 c1
        rintro V3 ⟨⟨hu, b0, b1, b2, b3⟩, bc, bo, bb⟩
        have HJ := hide (And.intro (And.intro hu (And.intro b0 (And.intro b1 (And.intro b2 b3)))) (And.intro bc (And.intro bo bb)))
        clear hu b0 b1 b2 b3 bc bo bb
        have s0 := HJ.out.1.2.1.cell 0 rfl
        have s1 := HJ.out.1.2.1.cell 1 rfl
        have s2 := HJ.out.1.2.1.cell 2 rfl
        have s3 := HJ.out.1.2.1.cell 3 rfl
        have ls := HJ.out.1.2.1.lt
        have f0 := HJ.out.1.2.2.1.cell 0 rfl
        have f1 := HJ.out.1.2.2.1.cell 1 rfl
        have f2 := HJ.out.1.2.2.1.cell 2 rfl
        have f3 := HJ.out.1.2.2.1.cell 3 rfl
        have f4 := HJ.out.1.2.2.1.cell 4 rfl
        have f5 := HJ.out.1.2.2.1.cell 5 rfl
        have f6 := HJ.out.1.2.2.1.cell 6 rfl
        have f7 := HJ.out.1.2.2.1.cell 7 rfl
        have f8 := HJ.out.1.2.2.1.cell 8 rfl
        have f9 := HJ.out.1.2.2.1.cell 9 rfl
        have f10 := HJ.out.1.2.2.1.cell 10 rfl
        have lf := HJ.out.1.2.2.1.lt
        have g0 := HJ.out.1.2.2.2.1.cell 0 rfl
        have g1 := HJ.out.1.2.2.2.1.cell 1 rfl
        have g2 := HJ.out.1.2.2.2.1.cell 2 rfl
        have g3 := HJ.out.1.2.2.2.1.cell 3 rfl
        have lg := HJ.out.1.2.2.2.1.lt
        have q0 := HJ.out.2.2.1.cell 0 rfl
        have q1 := HJ.out.2.2.1.cell 1 rfl
        have lq := HJ.out.2.2.1.lt
        have fq0 := HJ.out.2.2.1.frozen 0
        have fq1 := HJ.out.2.2.1.frozen 1
        have b0 := HJ.out.2.2.2.cell 0 rfl
        have b1 := HJ.out.2.2.2.cell 1 rfl
        have lb := HJ.out.2.2.2.lt
        ((first | with_reducible refine wp_region_ext_tail2 1 (by kernel_rfl) (by kernel_rfl) ?_ | refine wp_region_ext_tail 1 (by kernel_rfl) (by kernel_rfl) ?_); simp only [List.length_cons, List.length_nil, Nat.reduceAdd, Nat.reduceSub, List.take_succ_cons, List.take_zero, List.drop_succ_cons, List.drop_zero]; (repeat (go_big_quiet_step ((first | (go_at_call 122; with_reducible exact Gives.inRegion (HCE.out _)) | (go_at_call 169; with_reducible exact Gives.inRegion (HCL.out _ _)))))); refine wpQuiet_nil ?_; intro _ hw'; obtain ⟨_, hw''⟩ := hw'; subst hw'')
        go_wp2_with fail
        go_roundw
        case rel =>
          refine ⟨k + 1, by omega, by go_num, hide ⟨⟨⟨(by repeat (first | with_reducible exact HJ.out.1.1 | with_reducible exact Up.refl _ | with_reducible apply Up.ext | with_reducible apply Up.alloc | with_reducible apply Up.drew | (with_reducible refine Up.setCell ?_ (by simp only; omega) _))), (by repeat (first | with_reducible exact HJ.out.1.2.1 | with_reducible apply Box.ext | with_reducible apply Box.alloc | with_reducible apply Box.drew | (with_reducible refine Box.other ?_ (by omega) _ _))), (by repeat (first | with_reducible exact HJ.out.1.2.2.1 | with_reducible apply Box.ext | with_reducible apply Box.alloc | with_reducible apply Box.drew | (with_reducible refine Box.other ?_ (by omega) _ _))), (by repeat (first | with_reducible exact HJ.out.1.2.2.2.1 | with_reducible apply Box.ext | with_reducible apply Box.alloc | with_reducible apply Box.drew | (with_reducible refine Box.other ?_ (by omega) _ _))), (by repeat (first | with_reducible exact HJ.out.1.2.2.2.2 | with_reducible apply Box.ext | with_reducible apply Box.alloc | with_reducible apply Box.drew | (with_reducible refine Box.other ?_ (by omega) _ _)))⟩, (by repeat (first | with_reducible exact HJ.out.2.1 | with_reducible apply Box.ext | with_reducible apply Box.alloc | with_reducible apply Box.drew | (with_reducible refine Box.other ?_ (by omega) _ _))), ?_, (by repeat (first | with_reducible exact HJ.out.2.2.2 | with_reducible apply Box.ext | with_reducible apply Box.alloc | with_reducible apply Box.drew | (with_reducible refine Box.other ?_ (by omega) _ _)))⟩, HI.out.2.succ HP.out (decide_eq_false (by have := HD.out; omega))⟩⟩
          rw [HLO.out, HHI.out]
          exact (by (repeat (first | with_reducible apply Box.ext | with_reducible apply Box.alloc | with_reducible apply Box.drew)); exact (HJ.out.2.2.1.set 1 (.int .i64 (max (HU k) (clampS (S2 - lo + o.err))))))
        case measure => simp [intOf]; omega
    · obtain rfl : k = 4 := by omega
      obtain ⟨r1, r2⟩ := HYES.out HI.out.2
      have HR1 := hide r1
      have HR2 := hide r2
      clear r1 r2
      go_wp2
      refine forgetW (fun WF => Up w WF ∧ Box WF (w.heap.size + 1 + 1 + 1) #[.int .i64 ((LU 4)), .int .i64 ((HU 4))] 38) ⟨(by repeat (first | with_reducible exact HI.out.1.1.1 | with_reducible exact Up.refl _ | with_reducible apply Up.ext | with_reducible apply Up.alloc | with_reducible apply Up.drew | (with_reducible refine Up.setCell ?_ (by simp only; omega) _))), ?_⟩ ?_
      · exact (by (repeat (first | with_reducible apply Box.ext | with_reducible apply Box.alloc | with_reducible apply Box.drew)); exact ((HI.out.1.1.2.2.2.2.set 0 (.int .i64 (LU 4))).set 1 (.int .i64 (HU 4))))
      rintro WF ⟨huF, hbF⟩
      have w0 := hbF.cell 0 rfl
      have w1 := hbF.cell 1 rfl
      (refine bodyPost_give huF rfl ⟨_, (by simp [results, Tryz.results132, go_sem, w0, w1]; rfl), ?_⟩)
      rw [HR1.out, HR2.out]
end Go.Proofs.YtnaiaodnnmhdkaaGreat
