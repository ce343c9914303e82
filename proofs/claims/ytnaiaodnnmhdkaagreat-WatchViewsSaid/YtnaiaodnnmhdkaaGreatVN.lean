/- Reference bolideref06: the view of an area. Conditions: a valid offer, bounds. -/
import Derived.Test.YtnaiaodnnmhdkaaGreatVM
import Derived.Test.YtnaiaodnnmhdkaaGreatWatchI
namespace Go.Proofs.YtnaiaodnnmhdkaaGreat
set_option linter.unusedVariables false
set_option linter.unusedSimpArgs false
open Go.RowKit Go.Shelf

set_option maxRecDepth 100000 in
set_option maxHeartbeats 4000000 in
theorem vvalues_any {K : Nat → Prop} {w : World} {a sa ca : Option Addr} {n c sn sc cn cc : Nat} {s : SkyD} (hL : SkyL K w a n c sa sn sc ca cn cc s) (o : OffD) (he : offE s o = 0) {x0 x1 y0 y1 : Int} (ha : ABd (x0, x1, y0, y1)) : Gives Tryz.prog 132 #[.agg #[.slice a n c, .int .i64 s.home, .slice sa sn sc, .slice ca cn cc], .agg (offA o), .agg #[.int .i64 (x0), .int .i64 (x1), .int .i64 (y0), .int .i64 (y1)]] w (.agg #[.int .i64 ((clampS (valuesK (kndOf s o) (x0, x1, y0, y1)).1)), .int .i64 ((clampS (valuesK (kndOf s o) (x0, x1, y0, y1)).2))]) := by
  by_cases h2 : o.kind = 2
  · exact vvalues_r hL o he h2 ha
  · exact vvalues_s hL o he h2 ha
def allU {α : Type} (f : α → Bool) (l : List α) (k : Nat) : Bool := (l.take k).all f
theorem allU_succ {α : Type} {f : α → Bool} {l : List α} {k : Nat} {p : α} (hp : l[k]? = some p) : allU f l (k + 1) = (allU f l k && f p) := by
  unfold allU
  rw [List.take_add_one, hp]
  simp [List.all_append]
set_option maxRecDepth 100000 in
set_option maxHeartbeats 40000000 in
theorem vview0_any {K : Nat → Prop} {w : World} {a sa ca : Option Addr} {n c sn sc cn cc : Nat} {s : SkyD} (hL : SkyL K w a n c sa sn sc ca cn cc s) (o : OffD) (he : offE s o = 0) {x0 x1 y0 y1 : Int} (ha : ABd (x0, x1, y0, y1)) : Gives Tryz.prog 75 #[.agg #[.slice a n c, .int .i64 s.home, .slice sa sn sc, .slice ca cn cc], .agg (offA o), .agg #[.int .i64 (x0), .int .i64 (x1), .int .i64 (y0), .int .i64 (y1)]] w (.agg (viewA (viewK (kndOf s o) (x0, x1, y0, y1)))) := by
  have hk := kbd_of he
  have HM := hide (fun W (hu : Up w W) => vmay_any (hL.up hu) o he ha)
  have HV := hide (fun W (hu : Up w W) => vvalues_any (hL.up hu) o he ha)
  have HCO := hide (show ∀ k, k < 4 → ∃ (p : Int × Int) (F : Bool), (cornersA (x0, x1, y0, y1))[k]? = some p ∧ (∀ W, Up w W → Gives Tryz.prog 70 #[.agg #[.slice a n c, .int .i64 s.home, .slice sa sn sc, .slice ca cn cc], .agg (offA o), .agg #[.int .i64 (p.1), .int .i64 (p.2)]] W (.bool F)) ∧ allU (fieldK (kndOf s o)) (cornersA (x0, x1, y0, y1)) (k + 1) = (allU (fieldK (kndOf s o)) (cornersA (x0, x1, y0, y1)) k && F) from fun k hk4 => by
    obtain ⟨p, hp⟩ := corner_at (a := (x0, x1, y0, y1)) hk4
    have hpb : PBd p := (corner_in ha p (List.mem_of_getElem? hp)).bd ha
    exact ⟨p, fieldK (kndOf s o) p, hp, fun W hu => vfield0_any (hL.up hu) o he (x := p.1) (y := p.2) hpb, allU_succ hp⟩)
  have HA0 : allU (fieldK (kndOf s o)) (cornersA (x0, x1, y0, y1)) 0 = true := rfl
  have HA4 : (cornersA (x0, x1, y0, y1)).all (fieldK (kndOf s o)) = allU (fieldK (kndOf s o)) (cornersA (x0, x1, y0, y1)) 4 := rfl
  unfold viewK viewA
  rw [HA4]
  generalize mayK (kndOf s o) (x0, x1, y0, y1) = MY at *
  generalize allU (fieldK (kndOf s o)) (cornersA (x0, x1, y0, y1)) = AU at *
  generalize clampS (valuesK (kndOf s o) (x0, x1, y0, y1)).1 = R1 at *
  generalize clampS (valuesK (kndOf s o) (x0, x1, y0, y1)).2 = R2 at *
  generalize s.home = home at *
  clear hk he hL ha HA4
  dsimp only
  (unfold Gives; go_enter Tryz.func75, Tryz.ntmps75)
  go_wp2_with fail
  go_at_call 130
  refine forgetK (fun wr => Up w wr ∧ Box wr w.heap.size #[.slice a n c, .int .i64 home, .slice sa sn sc, .slice ca cn cc] 28 ∧ Box wr (w.heap.size + 1) (offA o) 32 ∧ Box wr (w.heap.size + 1 + 1) #[.int .i64 (x0), .int .i64 (x1), .int .i64 (y0), .int .i64 (y1)] 46 ∧ Box wr (w.heap.size + 1 + 1 + 1) #[.bool false, .bool false, .int .i64 0, .int .i64 0] 50) ⟨(by repeat (first | with_reducible exact Up.refl _ | with_reducible apply Up.plus | apply Up.ext | apply Up.alloc | apply Up.drew | (refine Up.setCell ?_ (by simp; try omega) _))), (by repeat (first | exact Box.mk rfl | (refine Box.mk ?_; simp; done) | apply Box.ext | apply Box.drew | apply Box.alloc | apply Box.two1 | (refine Box.other ?_ (by omega) _ _))), (by repeat (first | exact Box.mk rfl | (refine Box.mk ?_; simp; done) | apply Box.ext | apply Box.drew | apply Box.alloc | apply Box.two1 | (refine Box.other ?_ (by omega) _ _))), (by repeat (first | exact Box.mk rfl | (refine Box.mk ?_; simp; done) | apply Box.ext | apply Box.drew | apply Box.alloc | apply Box.two1 | (refine Box.other ?_ (by omega) _ _))), (by repeat (first | exact Box.mk rfl | (refine Box.mk ?_; simp; done) | apply Box.ext | apply Box.drew | apply Box.alloc | apply Box.two1 | (refine Box.other ?_ (by omega) _ _)))⟩ ?_
  rintro V ⟨hu, b0, b1, b2, b3⟩
  have lz := b3.lt
  have HB := hide (And.intro (And.intro hu (And.intro b0 (And.intro b1 (And.intro b2 b3)))) trivial)
  clear hu b0 b1 b2 b3
  have s0 := HB.out.1.2.1.cell 0 rfl
  have s1 := HB.out.1.2.1.cell 1 rfl
  have s2 := HB.out.1.2.1.cell 2 rfl
  have s3 := HB.out.1.2.1.cell 3 rfl
  have ls := HB.out.1.2.1.lt
  have f0 := HB.out.1.2.2.1.cell 0 rfl
  have f1 := HB.out.1.2.2.1.cell 1 rfl
  have f2 := HB.out.1.2.2.1.cell 2 rfl
  have f3 := HB.out.1.2.2.1.cell 3 rfl
  have f4 := HB.out.1.2.2.1.cell 4 rfl
  have f5 := HB.out.1.2.2.1.cell 5 rfl
  have f6 := HB.out.1.2.2.1.cell 6 rfl
  have f7 := HB.out.1.2.2.1.cell 7 rfl
  have f8 := HB.out.1.2.2.1.cell 8 rfl
  have f9 := HB.out.1.2.2.1.cell 9 rfl
  have f10 := HB.out.1.2.2.1.cell 10 rfl
  have lf := HB.out.1.2.2.1.lt
  have g0 := HB.out.1.2.2.2.1.cell 0 rfl
  have g1 := HB.out.1.2.2.2.1.cell 1 rfl
  have g2 := HB.out.1.2.2.2.1.cell 2 rfl
  have g3 := HB.out.1.2.2.2.1.cell 3 rfl
  have lg := HB.out.1.2.2.2.1.lt
  refine (HM.out _ HB.out.1.1).mono ?_
  intro q1
  go_wp2_with fail
  go_at_call 131
  obtain ⟨go, hgo⟩ : ∃ go, go = V.heap.size + q1.os.size := ⟨_, rfl⟩
  rw [← hgo]
  have lgo : w.heap.size + 1 + 1 + 1 < go := by omega
  refine forgetK (fun wr => (Up w wr ∧ Box wr w.heap.size #[.slice a n c, .int .i64 home, .slice sa sn sc, .slice ca cn cc] 28 ∧ Box wr (w.heap.size + 1) (offA o) 32 ∧ Box wr (w.heap.size + 1 + 1) #[.int .i64 (x0), .int .i64 (x1), .int .i64 (y0), .int .i64 (y1)] 46 ∧ Box wr (w.heap.size + 1 + 1 + 1) #[.bool false, .bool false, .int .i64 0, .int .i64 0] 50) ∧ Box wr go #[.bool MY, .bool true, .int .i64 0, .int .i64 0] 50) ⟨⟨(by repeat (first | with_reducible exact HB.out.1.1 | with_reducible exact Up.refl _ | with_reducible apply Up.ext | with_reducible apply Up.alloc | with_reducible apply Up.drew | (with_reducible refine Up.setCell ?_ (by simp only; omega) _))), (by repeat (first | with_reducible exact HB.out.1.2.1 | with_reducible apply Box.ext | with_reducible apply Box.alloc | with_reducible apply Box.drew | (with_reducible refine Box.other ?_ (by omega) _ _))), (by repeat (first | with_reducible exact HB.out.1.2.2.1 | with_reducible apply Box.ext | with_reducible apply Box.alloc | with_reducible apply Box.drew | (with_reducible refine Box.other ?_ (by omega) _ _))), (by repeat (first | with_reducible exact HB.out.1.2.2.2.1 | with_reducible apply Box.ext | with_reducible apply Box.alloc | with_reducible apply Box.drew | (with_reducible refine Box.other ?_ (by omega) _ _))), (by repeat (first | with_reducible exact HB.out.1.2.2.2.2 | with_reducible apply Box.ext | with_reducible apply Box.alloc | with_reducible apply Box.drew | (with_reducible refine Box.other ?_ (by omega) _ _)))⟩, by rw [hgo]; exact Box.mk (ext_size _ _)⟩ ?_
  intro V2 h2
  have lgo2 := h2.2.lt
  have HB2 := hide h2
  clear h2 HB hgo s0 s1 s2 s3 ls f0 f1 f2 f3 f4 f5 f6 f7 f8 f9 f10 lf g0 g1 g2 g3 lg
  refine (vcorners_any _ _ _ _ _).mono ?_
  rintro _ _ ⟨gc, qc, rfl, hgc, hbc, rfl⟩
  have lgc : go < gc := by omega
  go_wp2_with fail
  refine forgetW (fun wr => ((Up w wr ∧ Box wr w.heap.size #[.slice a n c, .int .i64 home, .slice sa sn sc, .slice ca cn cc] 28 ∧ Box wr (w.heap.size + 1) (offA o) 32 ∧ Box wr (w.heap.size + 1 + 1) #[.int .i64 (x0), .int .i64 (x1), .int .i64 (y0), .int .i64 (y1)] 46 ∧ Box wr (w.heap.size + 1 + 1 + 1) #[.bool false, .bool false, .int .i64 0, .int .i64 0] 50) ∧ Box wr go #[.bool MY, .bool true, .int .i64 0, .int .i64 0] 50) ∧ Box wr gc #[.int .i64 (x0), .int .i64 (y0), .int .i64 (x0), .int .i64 (y1), .int .i64 (x1), .int .i64 (y0), .int .i64 (x1), .int .i64 (y1)] 30) ⟨⟨⟨(by repeat (first | with_reducible exact HB2.out.1.1 | with_reducible exact Up.refl _ | with_reducible apply Up.ext | with_reducible apply Up.alloc | with_reducible apply Up.drew | (with_reducible refine Up.setCell ?_ (by simp only; omega) _))), (by repeat (first | with_reducible exact HB2.out.1.2.1 | with_reducible apply Box.ext | with_reducible apply Box.alloc | with_reducible apply Box.drew | (with_reducible refine Box.other ?_ (by omega) _ _))), (by repeat (first | with_reducible exact HB2.out.1.2.2.1 | with_reducible apply Box.ext | with_reducible apply Box.alloc | with_reducible apply Box.drew | (with_reducible refine Box.other ?_ (by omega) _ _))), (by repeat (first | with_reducible exact HB2.out.1.2.2.2.1 | with_reducible apply Box.ext | with_reducible apply Box.alloc | with_reducible apply Box.drew | (with_reducible refine Box.other ?_ (by omega) _ _))), (by repeat (first | with_reducible exact HB2.out.1.2.2.2.2 | with_reducible apply Box.ext | with_reducible apply Box.alloc | with_reducible apply Box.drew | (with_reducible refine Box.other ?_ (by omega) _ _)))⟩, (by repeat (first | with_reducible exact HB2.out.2 | with_reducible apply Box.ext | with_reducible apply Box.alloc | with_reducible apply Box.drew | (with_reducible refine Box.other ?_ (by omega) _ _)))⟩, by (first | exact hbc | (rw [← ext_ext]; exact hbc))⟩ ?_
  intro U0 hU0
  have H0 := hide hU0
  clear hU0 HB2 hbc hgc
  go_loopw [9] (fun s9 wr => ∃ k : Nat, k ≤ 4 ∧ s9 = .int .i64 k ∧ Hid (((Up w wr ∧ Box wr w.heap.size #[.slice a n c, .int .i64 home, .slice sa sn sc, .slice ca cn cc] 28 ∧ Box wr (w.heap.size + 1) (offA o) 32 ∧ Box wr (w.heap.size + 1 + 1) #[.int .i64 (x0), .int .i64 (x1), .int .i64 (y0), .int .i64 (y1)] 46 ∧ Box wr (w.heap.size + 1 + 1 + 1) #[.bool false, .bool false, .int .i64 0, .int .i64 0] 50) ∧ Box wr go #[.bool MY, .bool (AU k), .int .i64 0, .int .i64 0] 50) ∧ Box wr gc #[.int .i64 (x0), .int .i64 (y0), .int .i64 (x0), .int .i64 (y1), .int .i64 (x1), .int .i64 (y0), .int .i64 (x1), .int .i64 (y1)] 30)) (fun s9 _ => 4 - (intOf s9).toNat)
  case atStart => exact ⟨0, by omega, rfl, by rw [HA0]; exact H0⟩
  case round =>
    obtain ⟨k, hk4, rfl, HI⟩ := hrel
    clear H0
    have s0 := HI.out.1.1.2.1.cell 0 rfl
    have s1 := HI.out.1.1.2.1.cell 1 rfl
    have s2 := HI.out.1.1.2.1.cell 2 rfl
    have s3 := HI.out.1.1.2.1.cell 3 rfl
    have ls := HI.out.1.1.2.1.lt
    have f0 := HI.out.1.1.2.2.1.cell 0 rfl
    have f1 := HI.out.1.1.2.2.1.cell 1 rfl
    have f2 := HI.out.1.1.2.2.1.cell 2 rfl
    have f3 := HI.out.1.1.2.2.1.cell 3 rfl
    have f4 := HI.out.1.1.2.2.1.cell 4 rfl
    have f5 := HI.out.1.1.2.2.1.cell 5 rfl
    have f6 := HI.out.1.1.2.2.1.cell 6 rfl
    have f7 := HI.out.1.1.2.2.1.cell 7 rfl
    have f8 := HI.out.1.1.2.2.1.cell 8 rfl
    have f9 := HI.out.1.1.2.2.1.cell 9 rfl
    have f10 := HI.out.1.1.2.2.1.cell 10 rfl
    have lf := HI.out.1.1.2.2.1.lt
    have g0 := HI.out.1.1.2.2.2.1.cell 0 rfl
    have g1 := HI.out.1.1.2.2.2.1.cell 1 rfl
    have g2 := HI.out.1.1.2.2.2.1.cell 2 rfl
    have g3 := HI.out.1.1.2.2.2.1.cell 3 rfl
    have lg := HI.out.1.1.2.2.2.1.lt
    have q0 := HI.out.1.2.cell 0 rfl
    have q1 := HI.out.1.2.cell 1 rfl
    have q2 := HI.out.1.2.cell 2 rfl
    have q3 := HI.out.1.2.cell 3 rfl
    have lq := HI.out.1.2.lt
    have fq0 := HI.out.1.2.frozen 0
    have fq1 := HI.out.1.2.frozen 1
    have fq2 := HI.out.1.2.frozen 2
    have fq3 := HI.out.1.2.frozen 3
    have n0 : w.heap.size ≠ go := by omega
    have n1 : w.heap.size + 1 ≠ go := by omega
    have n2 : w.heap.size + 1 + 1 ≠ go := by omega
    have n3 : w.heap.size + 1 + 1 + 1 ≠ go := by omega
    have n5 : gc ≠ go := by omega
    have lz := HI.out.1.1.2.2.2.2.lt
    have z0 := HI.out.1.1.2.2.2.2.cell 0 rfl
    have z1 := HI.out.1.1.2.2.2.2.cell 1 rfl
    have z2 := HI.out.1.1.2.2.2.2.cell 2 rfl
    have z3 := HI.out.1.1.2.2.2.2.cell 3 rfl
    have fz0 := HI.out.1.1.2.2.2.2.frozen 0
    have fz1 := HI.out.1.1.2.2.2.2.frozen 1
    have fz2 := HI.out.1.1.2.2.2.2.frozen 2
    have fz3 := HI.out.1.1.2.2.2.2.frozen 3
    have lc := HI.out.2.lt
    by_cases hlt : k < 4
    · have hkb : decide ((k : Int) < 4) = true := by simp; omega
      have hkn : decide (k < 4) = true := by simp; omega
      obtain ⟨p, F, hp, hf, hau⟩ := HCO.out k hlt
      obtain ⟨cc0, cc1⟩ := corner_cells hp
      have c0 := HI.out.2.cell _ cc0
      have c1 := HI.out.2.cell _ cc1
      obtain ⟨px, py⟩ := p
      dsimp only at c0 c1 hf
      have HFI := hide hf
      have HAU := hide hau
      clear hf hau cc0 cc1 hp
      rcases hb : AU k with _ | _
      · have q1b := q1
        rw [hb] at q1b HAU
        have HJ := hide (And.intro HI.out (show Box wr go #[.bool MY, .bool false, .int .i64 0, .int .i64 0] 50 by have := HI.out.1.2; rwa [hb] at this))
        clear q1 hb HI
        have q1 := q1b
        clear q1b
        go_wp2_with fail
        ((first | with_reducible refine wp_region_ext_tail2 1 (by kernel_rfl) (by kernel_rfl) ?_ | refine wp_region_ext_tail 1 (by kernel_rfl) (by kernel_rfl) ?_); simp only [List.length_cons, List.length_nil, Nat.reduceAdd, Nat.reduceSub, List.take_succ_cons, List.take_zero, List.drop_succ_cons, List.drop_zero]; (repeat (go_big_quiet_step ((go_at_call 70; with_reducible exact Gives.inRegion (HFI.out _ (HJ.out.1.1.1.1.ext _)))))); refine wpQuiet_nil ?_; intro _ hw'; obtain ⟨_, hw''⟩ := hw'; subst hw'')
        go_wp2_with fail
        go_roundw
        case rel =>
          refine ⟨k + 1, by omega, by go_num, hide ⟨⟨⟨(by repeat (first | with_reducible exact HJ.out.1.1.1.1 | with_reducible exact Up.refl _ | with_reducible apply Up.ext | with_reducible apply Up.alloc | with_reducible apply Up.drew | (with_reducible refine Up.setCell ?_ (by simp only; omega) _))), (by repeat (first | with_reducible exact HJ.out.1.1.1.2.1 | with_reducible apply Box.ext | with_reducible apply Box.alloc | with_reducible apply Box.drew | (with_reducible refine Box.other ?_ (by omega) _ _))), (by repeat (first | with_reducible exact HJ.out.1.1.1.2.2.1 | with_reducible apply Box.ext | with_reducible apply Box.alloc | with_reducible apply Box.drew | (with_reducible refine Box.other ?_ (by omega) _ _))), (by repeat (first | with_reducible exact HJ.out.1.1.1.2.2.2.1 | with_reducible apply Box.ext | with_reducible apply Box.alloc | with_reducible apply Box.drew | (with_reducible refine Box.other ?_ (by omega) _ _))), (by repeat (first | with_reducible exact HJ.out.1.1.1.2.2.2.2 | with_reducible apply Box.ext | with_reducible apply Box.alloc | with_reducible apply Box.drew | (with_reducible refine Box.other ?_ (by omega) _ _)))⟩, ?_⟩, (by repeat (first | with_reducible exact HJ.out.1.2 | with_reducible apply Box.ext | with_reducible apply Box.alloc | with_reducible apply Box.drew | (with_reducible refine Box.other ?_ (by omega) _ _)))⟩⟩
          rw [HAU.out]
          exact (by (repeat (first | with_reducible apply Box.ext | with_reducible apply Box.alloc | with_reducible apply Box.drew)); exact (HJ.out.2.set 1 (.bool false)))
        case measure => simp [intOf]; omega
      · have q1b := q1
        rw [hb] at q1b HAU
        have HJ := hide (And.intro HI.out (show Box wr go #[.bool MY, .bool true, .int .i64 0, .int .i64 0] 50 by have := HI.out.1.2; rwa [hb] at this))
        clear q1 hb HI
        have q1 := q1b
        clear q1b
        go_wp2_with fail
        ((first | with_reducible refine wp_region_ext_tail2 1 (by kernel_rfl) (by kernel_rfl) ?_ | refine wp_region_ext_tail 1 (by kernel_rfl) (by kernel_rfl) ?_); simp only [List.length_cons, List.length_nil, Nat.reduceAdd, Nat.reduceSub, List.take_succ_cons, List.take_zero, List.drop_succ_cons, List.drop_zero]; (repeat (go_big_quiet_step ((go_at_call 70; with_reducible exact Gives.inRegion (HFI.out _ (HJ.out.1.1.1.1.ext _)))))); refine wpQuiet_nil ?_; intro _ hw'; obtain ⟨_, hw''⟩ := hw'; subst hw'')
        go_wp2_with fail
        go_roundw
        case rel =>
          refine ⟨k + 1, by omega, by go_num, hide ⟨⟨⟨(by repeat (first | with_reducible exact HJ.out.1.1.1.1 | with_reducible exact Up.refl _ | with_reducible apply Up.ext | with_reducible apply Up.alloc | with_reducible apply Up.drew | (with_reducible refine Up.setCell ?_ (by simp only; omega) _))), (by repeat (first | with_reducible exact HJ.out.1.1.1.2.1 | with_reducible apply Box.ext | with_reducible apply Box.alloc | with_reducible apply Box.drew | (with_reducible refine Box.other ?_ (by omega) _ _))), (by repeat (first | with_reducible exact HJ.out.1.1.1.2.2.1 | with_reducible apply Box.ext | with_reducible apply Box.alloc | with_reducible apply Box.drew | (with_reducible refine Box.other ?_ (by omega) _ _))), (by repeat (first | with_reducible exact HJ.out.1.1.1.2.2.2.1 | with_reducible apply Box.ext | with_reducible apply Box.alloc | with_reducible apply Box.drew | (with_reducible refine Box.other ?_ (by omega) _ _))), (by repeat (first | with_reducible exact HJ.out.1.1.1.2.2.2.2 | with_reducible apply Box.ext | with_reducible apply Box.alloc | with_reducible apply Box.drew | (with_reducible refine Box.other ?_ (by omega) _ _)))⟩, ?_⟩, (by repeat (first | with_reducible exact HJ.out.1.2 | with_reducible apply Box.ext | with_reducible apply Box.alloc | with_reducible apply Box.drew | (with_reducible refine Box.other ?_ (by omega) _ _)))⟩⟩
          rw [HAU.out]
          exact (by (repeat (first | with_reducible apply Box.ext | with_reducible apply Box.alloc | with_reducible apply Box.drew)); exact (HJ.out.2.set 1 (.bool F)))
        case measure => simp [intOf]; omega
    · obtain rfl : k = 4 := by omega
      cases MY
      · go_wp2
        refine forgetW (fun WF => Up w WF ∧ Box WF (w.heap.size + 1 + 1 + 1) #[.bool false, .bool (AU 4), .int .i64 0, .int .i64 0] 50) ⟨(by repeat (first | with_reducible exact HI.out.1.1.1 | with_reducible exact Up.refl _ | with_reducible apply Up.ext | with_reducible apply Up.alloc | with_reducible apply Up.drew | (with_reducible refine Up.setCell ?_ (by simp only; omega) _))), ?_⟩ ?_
        · exact (by (repeat (first | with_reducible apply Box.ext | with_reducible apply Box.alloc | with_reducible apply Box.drew)); exact ((((HI.out.1.1.2.2.2.2.set 0 (.bool false)).set 1 (.bool (AU 4))).set 2 (.int .i64 0)).set 3 (.int .i64 0)))
        rintro WF ⟨huF, hbF⟩
        have w0 := hbF.cell 0 rfl
        have w1 := hbF.cell 1 rfl
        have w2 := hbF.cell 2 rfl
        have w3 := hbF.cell 3 rfl
        (refine bodyPost_give huF rfl ⟨_, (by simp [results, Tryz.results75, go_sem, w0, w1, w2, w3]; rfl), ?_⟩)
        rfl
      · go_wp2_with fail
        go_at_call 132
        refine (HV.out _ (HI.out.1.1.1)).mono ?_
        intro qv
        go_wp2
        refine forgetW (fun WF => Up w WF ∧ Box WF (w.heap.size + 1 + 1 + 1) #[.bool true, .bool (AU 4), .int .i64 R1, .int .i64 R2] 50) ⟨(by repeat (first | with_reducible exact HI.out.1.1.1 | with_reducible exact Up.refl _ | with_reducible apply Up.ext | with_reducible apply Up.alloc | with_reducible apply Up.drew | (with_reducible refine Up.setCell ?_ (by simp only; omega) _))), ?_⟩ ?_
        · exact (by (repeat (first | with_reducible apply Box.ext | with_reducible apply Box.alloc | with_reducible apply Box.drew)); exact (((((((HI.out.1.1.2.2.2.2).other n3 _ _).other n3 _ _).set 0 (.bool true)).set 1 (.bool (AU 4))).set 2 (.int .i64 R1)).set 3 (.int .i64 R2)))
        rintro WF ⟨huF, hbF⟩
        have w0 := hbF.cell 0 rfl
        have w1 := hbF.cell 1 rfl
        have w2 := hbF.cell 2 rfl
        have w3 := hbF.cell 3 rfl
        (refine bodyPost_give huF rfl ⟨_, (by simp [results, Tryz.results75, go_sem, w0, w1, w2, w3]; rfl), ?_⟩)
        rfl
end Go.Proofs.YtnaiaodnnmhdkaaGreat
