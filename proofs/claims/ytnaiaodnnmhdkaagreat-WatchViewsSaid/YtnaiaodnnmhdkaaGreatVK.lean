/- Reference bolideref06: whether an area may be seen. Conditions: a valid offer, bounds. -/
import Derived.Test.YtnaiaodnnmhdkaaGreatVJ
namespace Go.Proofs.YtnaiaodnnmhdkaaGreat
set_option linter.unusedVariables false
set_option linter.unusedSimpArgs false
open Go.RowKit Go.Shelf

theorem corner_at {a : Ar4} {k : Nat} (hk : k < 4) : ∃ p, (cornersA a)[k]? = some p := by
  match k, hk with
  | 0, _ => exact ⟨_, rfl⟩
  | 1, _ => exact ⟨_, rfl⟩
  | 2, _ => exact ⟨_, rfl⟩
  | 3, _ => exact ⟨_, rfl⟩
theorem corner_cells {x0 x1 y0 y1 : Int} {k : Nat} {p : Int × Int} (hp : (cornersA (x0, x1, y0, y1))[k]? = some p) : (#[.int .i64 (x0), .int .i64 (y0), .int .i64 (x0), .int .i64 (y1), .int .i64 (x1), .int .i64 (y0), .int .i64 (x1), .int .i64 (y1)] : Array Value)[k * 2]? = some (.int .i64 p.1) ∧ (#[.int .i64 (x0), .int .i64 (y0), .int .i64 (x0), .int .i64 (y1), .int .i64 (x1), .int .i64 (y0), .int .i64 (x1), .int .i64 (y1)] : Array Value)[k * 2 + 1]? = some (.int .i64 p.2) := by
  have hk : k < 4 := by have := (List.getElem?_eq_some_iff.1 hp).1; simpa [cornersA] using this
  match k, hk, hp with
  | 0, _, hp => cases hp; exact ⟨rfl, rfl⟩
  | 1, _, hp => cases hp; exact ⟨rfl, rfl⟩
  | 2, _, hp => cases hp; exact ⟨rfl, rfl⟩
  | 3, _, hp => cases hp; exact ⟨rfl, rfl⟩
/-- how many of the first k corners -/
def cnt (f : Int × Int → Bool) (l : List (Int × Int)) (k : Nat) : Nat := (l.take k).countP f
theorem cnt_le (f : Int × Int → Bool) (l : List (Int × Int)) (k : Nat) : cnt f l k ≤ k := by
  unfold cnt
  have h1 := List.countP_le_length (p := f) (l := l.take k)
  have h2 := List.length_take_le k l
  omega
theorem cnt_zero (f : Int × Int → Bool) (l : List (Int × Int)) : cnt f l 0 = 0 := rfl
theorem cnt_succ {f : Int × Int → Bool} {l : List (Int × Int)} {k : Nat} {p : Int × Int} (hp : l[k]? = some p) : cnt f l (k + 1) = cnt f l k + (if f p = true then 1 else 0) := by
  unfold cnt
  have hk := (List.getElem?_eq_some_iff.1 hp).1
  rw [List.take_add_one, hp]
  simp [List.countP_append, List.countP_cons]
theorem cnt_all (f : Int × Int → Bool) (a : Ar4) : decide ((cnt f (cornersA a) 4 : Int) < 4) = !(cornersA a).all f := by
  have hl : (cornersA a).length = 4 := rfl
  have ht : (cornersA a).take 4 = cornersA a := rfl
  unfold cnt
  rw [ht]
  have h1 := List.countP_le_length (p := f) (l := cornersA a)
  have h2 := List.countP_eq_length (p := f) (l := cornersA a)
  cases hc : (cornersA a).all f with
  | true =>
    rw [List.all_eq_true] at hc
    have := h2.2 hc
    rw [this, hl]
    rfl
  | false =>
    have : (cornersA a).countP f ≠ 4 := fun h => by
      have := List.all_eq_true.2 (h2.1 (h.trans hl.symm))
      rw [this] at hc; cases hc
    simp
    omega
set_option maxRecDepth 100000 in
set_option maxHeartbeats 40000000 in
theorem vmay_any {K : Nat → Prop} {w : World} {a sa ca : Option Addr} {n c sn sc cn cc : Nat} {s : SkyD} (hL : SkyL K w a n c sa sn sc ca cn cc s) (o : OffD) (he : offE s o = 0) {x0 x1 y0 y1 : Int} (ha : ABd (x0, x1, y0, y1)) : Gives Tryz.prog 130 #[.agg #[.slice a n c, .int .i64 s.home, .slice sa sn sc, .slice ca cn cc], .agg (offA o), .agg #[.int .i64 (x0), .int .i64 (x1), .int .i64 (y0), .int .i64 (y1)]] w (.bool (mayK (kndOf s o) (x0, x1, y0, y1))) := by
  have hk := kbd_of he
  have HN := hide (fun W (hu : Up w W) => vnearest_any (hL.up hu) o he ha)
  obtain ⟨-, -, ef, -⟩ := knd_wx s o
  have hf := hk.far
  rw [ef] at hf
  have hff := mul_abs (x := o.far) (y := o.far) (B := 134217728) (C := 134217728) (by omega) (by omega) (by omega) (by omega)
  have e4 : (134217728 : Int) * 134217728 = 18014398509481984 := by decide
  rw [e4] at hff
  have hR : reachK (kndOf s o) (nearK (kndOf s o) (x0, x1, y0, y1)) = decide (sqK (kndOf s o) (nearK (kndOf s o) (x0, x1, y0, y1)) ≤ o.far * o.far) := by unfold reachK; rw [ef]
  obtain ⟨Q, hQ⟩ : ∃ Q, sqK (kndOf s o) (nearK (kndOf s o) (x0, x1, y0, y1)) = Q := ⟨_, rfl⟩
  rw [hQ] at HN hR
  by_cases hr : o.far * o.far < Q
  · have hF : mayK (kndOf s o) (x0, x1, y0, y1) = false := by
      unfold mayK
      rw [hR, decide_eq_false (by omega), Bool.false_and]
    rw [hF]
    clear hF hR hQ ef hk he hL ha
    generalize s.home = home at *
    (unfold Gives; go_enter Tryz.func130, Tryz.ntmps130)
    go_wp2_with fail
    refine forgetW (fun V => Up w V ∧ Box V w.heap.size #[.slice a n c, .int .i64 home, .slice sa sn sc, .slice ca cn cc] 28 ∧ Box V (w.heap.size + 1) (offA o) 32 ∧ Box V (w.heap.size + 1 + 1) #[.int .i64 (x0), .int .i64 (x1), .int .i64 (y0), .int .i64 (y1)] 46) ⟨(by repeat (first | with_reducible exact Up.refl _ | with_reducible apply Up.plus | apply Up.ext | apply Up.alloc | apply Up.drew | (refine Up.setCell ?_ (by simp; try omega) _))), (by repeat (first | exact Box.mk rfl | (refine Box.mk ?_; simp; done) | apply Box.ext | apply Box.drew | apply Box.alloc | apply Box.two1 | (refine Box.other ?_ (by omega) _ _))), (by repeat (first | exact Box.mk rfl | (refine Box.mk ?_; simp; done) | apply Box.ext | apply Box.drew | apply Box.alloc | apply Box.two1 | (refine Box.other ?_ (by omega) _ _))), (by repeat (first | exact Box.mk rfl | (refine Box.mk ?_; simp; done) | apply Box.ext | apply Box.drew | apply Box.alloc | apply Box.two1 | (refine Box.other ?_ (by omega) _ _)))⟩ ?_
    rintro V ⟨hu, b0, b1, b2⟩
    have s0 := b0.cell 0 rfl
    have s1 := b0.cell 1 rfl
    have s2 := b0.cell 2 rfl
    have s3 := b0.cell 3 rfl
    have ls := b0.lt
    have f0 := b1.cell 0 rfl
    have f1 := b1.cell 1 rfl
    have f2 := b1.cell 2 rfl
    have f3 := b1.cell 3 rfl
    have f4 := b1.cell 4 rfl
    have f5 := b1.cell 5 rfl
    have f6 := b1.cell 6 rfl
    have f7 := b1.cell 7 rfl
    have f8 := b1.cell 8 rfl
    have f9 := b1.cell 9 rfl
    have f10 := b1.cell 10 rfl
    have lf := b1.lt
    have g0 := b2.cell 0 rfl
    have g1 := b2.cell 1 rfl
    have g2 := b2.cell 2 rfl
    have g3 := b2.cell 3 rfl
    have lg := b2.lt
    have HB := hide (hu)
    clear hu b0 b1 b2
    ((first | with_reducible refine wp_region_ext2 (by kernel_rfl) (by kernel_rfl) ?_ | refine wp_region_ext (by kernel_rfl) (by kernel_rfl) ?_); (repeat (go_big_quiet_step ((go_at_call 168; with_reducible exact Gives.inRegion (HN.out _ (by repeat (first | with_reducible exact HB.out | with_reducible apply Up.ext | with_reducible apply Up.alloc | with_reducible apply Up.drew))))))); refine wpQuiet_nil ?_; intro _ hw'; obtain ⟨_, hw''⟩ := hw'; subst hw'')
    go_wp2
    go_ret
    exact ⟨rfl, (by repeat (first | with_reducible exact HB.out | with_reducible exact Up.refl _ | apply Up.ext | apply Up.alloc | apply Up.drew | (refine Up.setCell ?_ (by simp [World.setCell]; try omega) _)))⟩
  have hR2 : reachK (kndOf s o) (nearK (kndOf s o) (x0, x1, y0, y1)) = true := by rw [hR]; exact decide_eq_true (by omega)
  by_cases h2 : o.kind = 2
  · have hF : mayK (kndOf s o) (x0, x1, y0, y1) = true := by
      unfold mayK
      rw [hR2, knd_ra h2]; rfl
    rw [hF]
    have h2b : (o.kind == 2) = true := by simp [h2]
    clear h2 hF hR hR2 hQ ef hk he hL ha
    generalize s.home = home at *
    (unfold Gives; go_enter Tryz.func130, Tryz.ntmps130)
    go_wp2_with fail
    refine forgetW (fun V => Up w V ∧ Box V w.heap.size #[.slice a n c, .int .i64 home, .slice sa sn sc, .slice ca cn cc] 28 ∧ Box V (w.heap.size + 1) (offA o) 32 ∧ Box V (w.heap.size + 1 + 1) #[.int .i64 (x0), .int .i64 (x1), .int .i64 (y0), .int .i64 (y1)] 46) ⟨(by repeat (first | with_reducible exact Up.refl _ | with_reducible apply Up.plus | apply Up.ext | apply Up.alloc | apply Up.drew | (refine Up.setCell ?_ (by simp; try omega) _))), (by repeat (first | exact Box.mk rfl | (refine Box.mk ?_; simp; done) | apply Box.ext | apply Box.drew | apply Box.alloc | apply Box.two1 | (refine Box.other ?_ (by omega) _ _))), (by repeat (first | exact Box.mk rfl | (refine Box.mk ?_; simp; done) | apply Box.ext | apply Box.drew | apply Box.alloc | apply Box.two1 | (refine Box.other ?_ (by omega) _ _))), (by repeat (first | exact Box.mk rfl | (refine Box.mk ?_; simp; done) | apply Box.ext | apply Box.drew | apply Box.alloc | apply Box.two1 | (refine Box.other ?_ (by omega) _ _)))⟩ ?_
    rintro V ⟨hu, b0, b1, b2⟩
    have s0 := b0.cell 0 rfl
    have s1 := b0.cell 1 rfl
    have s2 := b0.cell 2 rfl
    have s3 := b0.cell 3 rfl
    have ls := b0.lt
    have f0 := b1.cell 0 rfl
    have f1 := b1.cell 1 rfl
    have f2 := b1.cell 2 rfl
    have f3 := b1.cell 3 rfl
    have f4 := b1.cell 4 rfl
    have f5 := b1.cell 5 rfl
    have f6 := b1.cell 6 rfl
    have f7 := b1.cell 7 rfl
    have f8 := b1.cell 8 rfl
    have f9 := b1.cell 9 rfl
    have f10 := b1.cell 10 rfl
    have lf := b1.lt
    have g0 := b2.cell 0 rfl
    have g1 := b2.cell 1 rfl
    have g2 := b2.cell 2 rfl
    have g3 := b2.cell 3 rfl
    have lg := b2.lt
    have HB := hide (hu)
    clear hu b0 b1 b2
    ((first | with_reducible refine wp_region_ext2 (by kernel_rfl) (by kernel_rfl) ?_ | refine wp_region_ext (by kernel_rfl) (by kernel_rfl) ?_); (repeat (go_big_quiet_step ((go_at_call 168; with_reducible exact Gives.inRegion (HN.out _ (by repeat (first | with_reducible exact HB.out | with_reducible apply Up.ext | with_reducible apply Up.alloc | with_reducible apply Up.drew))))))); refine wpQuiet_nil ?_; intro _ hw'; obtain ⟨_, hw''⟩ := hw'; subst hw'')
    go_wp2
    go_ret
    exact ⟨rfl, (by repeat (first | with_reducible exact HB.out | with_reducible exact Up.refl _ | apply Up.ext | apply Up.alloc | apply Up.drew | (refine Up.setCell ?_ (by simp [World.setCell]; try omega) _)))⟩
  have h2b : (o.kind == 2) = false := by simp [h2]
  obtain ⟨e0, -, -, -, -, e5⟩ := knd_sc (s := s) h2
  have hF : mayK (kndOf s o) (x0, x1, y0, y1) = (!(cornersA (x0, x1, y0, y1)).all (behindK (kndOf s o)) && (!(cornersA (x0, x1, y0, y1)).all (belowK (kndOf s o)) && !(cornersA (x0, x1, y0, y1)).all (aboveK (kndOf s o)))) := by
    unfold mayK
    rw [hR2, e0]; rfl
  rw [hF, ← cnt_all, ← cnt_all, ← cnt_all]
  have hw := hk.wide
  rw [e5] at hw
  -- a corner
  have HCO := hide (show ∀ k, k < 4 → ∃ (p : Int × Int) (C D : Int) (fb fr fl : Bool), (cornersA (x0, x1, y0, y1))[k]? = some p ∧ (∀ W, Up w W → Gives Tryz.prog 120 #[.agg #[.slice a n c, .int .i64 s.home, .slice sa sn sc, .slice ca cn cc], .agg (offA o), .agg #[.int .i64 (p.1), .int .i64 (p.2)]] W (.tuple #[.int .i64 C, .int .i64 D])) ∧ behindK (kndOf s o) p = fb ∧ belowK (kndOf s o) p = fr ∧ aboveK (kndOf s o) p = fl ∧ fb = decide (D ≤ 0) ∧ fr = decide (C < -(o.wide * D)) ∧ fl = decide (o.wide * D < C) ∧ (-558345748480000000 ≤ o.wide * D ∧ o.wide * D ≤ 558345748480000000) from fun k hk4 => by
    obtain ⟨p, hp⟩ := corner_at (a := (x0, x1, y0, y1)) hk4
    have hpb : PBd p := (corner_in ha p (List.mem_of_getElem? hp)).bd ha
    have hcr := (cr_bdK hk hpb).2.2
    have hm := mul_abs (x := o.wide) (y := doK (kndOf s o) p) (B := 1000000) (C := 558345748480) (by omega) (by omega) (by omega) (by omega)
    have e6 : (1000000 : Int) * 558345748480 = 558345748480000000 := by decide
    rw [e6] at hm
    refine ⟨p, 1000000 * crK (kndOf s o) p, doK (kndOf s o) p, _, _, _, hp, fun W hu => vslope_any (hL.up hu) o he h2 (x := p.1) (y := p.2) hpb, rfl, rfl, rfl, rfl, ?_, ?_, hm⟩
    · unfold belowK; rw [e5, Int.neg_mul]
    · unfold aboveK; rw [e5])
  clear hF hR hR2 hQ ef hk he hL ha e0 e5 h2
  generalize behindK (kndOf s o) = Fb at *
  generalize belowK (kndOf s o) = Fr at *
  generalize aboveK (kndOf s o) = Fl at *
  generalize s.home = home at *
  (unfold Gives; go_enter Tryz.func130, Tryz.ntmps130)
  go_wp2_with fail
  refine forgetW (fun V => Up w V ∧ Box V w.heap.size #[.slice a n c, .int .i64 home, .slice sa sn sc, .slice ca cn cc] 28 ∧ Box V (w.heap.size + 1) (offA o) 32 ∧ Box V (w.heap.size + 1 + 1) #[.int .i64 (x0), .int .i64 (x1), .int .i64 (y0), .int .i64 (y1)] 46) ⟨(by repeat (first | with_reducible exact Up.refl _ | with_reducible apply Up.plus | apply Up.ext | apply Up.alloc | apply Up.drew | (refine Up.setCell ?_ (by simp; try omega) _))), (by repeat (first | exact Box.mk rfl | (refine Box.mk ?_; simp; done) | apply Box.ext | apply Box.drew | apply Box.alloc | apply Box.two1 | (refine Box.other ?_ (by omega) _ _))), (by repeat (first | exact Box.mk rfl | (refine Box.mk ?_; simp; done) | apply Box.ext | apply Box.drew | apply Box.alloc | apply Box.two1 | (refine Box.other ?_ (by omega) _ _))), (by repeat (first | exact Box.mk rfl | (refine Box.mk ?_; simp; done) | apply Box.ext | apply Box.drew | apply Box.alloc | apply Box.two1 | (refine Box.other ?_ (by omega) _ _)))⟩ ?_
  rintro V ⟨hu, b0, b1, b2⟩
  have s0 := b0.cell 0 rfl
  have s1 := b0.cell 1 rfl
  have s2 := b0.cell 2 rfl
  have s3 := b0.cell 3 rfl
  have ls := b0.lt
  have f0 := b1.cell 0 rfl
  have f1 := b1.cell 1 rfl
  have f2 := b1.cell 2 rfl
  have f3 := b1.cell 3 rfl
  have f4 := b1.cell 4 rfl
  have f5 := b1.cell 5 rfl
  have f6 := b1.cell 6 rfl
  have f7 := b1.cell 7 rfl
  have f8 := b1.cell 8 rfl
  have f9 := b1.cell 9 rfl
  have f10 := b1.cell 10 rfl
  have lf := b1.lt
  have g0 := b2.cell 0 rfl
  have g1 := b2.cell 1 rfl
  have g2 := b2.cell 2 rfl
  have g3 := b2.cell 3 rfl
  have lg := b2.lt
  have HB := hide hu
  have HX := hide (And.intro b0 b1)
  clear hu b0 b1 b2
  ((first | with_reducible refine wp_region_ext2 (by kernel_rfl) (by kernel_rfl) ?_ | refine wp_region_ext (by kernel_rfl) (by kernel_rfl) ?_); (repeat (go_big_quiet_step ((go_at_call 168; with_reducible exact Gives.inRegion (HN.out _ (by repeat (first | with_reducible exact HB.out | with_reducible apply Up.ext | with_reducible apply Up.alloc | with_reducible apply Up.drew))))))); refine wpQuiet_nil ?_; intro _ hw'; obtain ⟨_, hw''⟩ := hw'; subst hw'')
  go_wp2_with fail
  go_at_call 131
  refine (vcorners_any _ _ _ _ _).mono ?_
  rintro _ _ ⟨gc, qc, rfl, hgc, hbc, rfl⟩
  go_wp2_with fail
  refine forgetW (fun U => (Up w U ∧ Box U w.heap.size #[.slice a n c, .int .i64 home, .slice sa sn sc, .slice ca cn cc] 28 ∧ Box U (w.heap.size + 1) (offA o) 32) ∧ Box U gc #[.int .i64 (x0), .int .i64 (y0), .int .i64 (x0), .int .i64 (y1), .int .i64 (x1), .int .i64 (y0), .int .i64 (x1), .int .i64 (y1)] 30) ⟨⟨(by repeat (first | with_reducible exact HB.out | with_reducible apply Up.ext | with_reducible apply Up.alloc | with_reducible apply Up.drew)), (HX.out.1.up (by repeat (first | with_reducible exact Up.refl _ | with_reducible apply Up.ext))), (HX.out.2.up (by repeat (first | with_reducible exact Up.refl _ | with_reducible apply Up.ext)))⟩, by (first | exact hbc | (rw [← ext_ext]; exact hbc))⟩ ?_
  intro U0 hU0
  have H0 := hide hU0
  clear hU0 hbc hgc HX s0 s1 s2 s3 ls f0 f1 f2 f3 f4 f5 f6 f7 f8 f9 f10 lf g0 g1 g2 g3 lg
  go_loopw [7, 8, 9, 11] (fun s7 s8 s9 s11 wr => ∃ k : Nat, k ≤ 4 ∧ s7 = .int .i64 (cnt Fb (cornersA (x0, x1, y0, y1)) k) ∧ s8 = .int .i64 (cnt Fr (cornersA (x0, x1, y0, y1)) k) ∧ s9 = .int .i64 (cnt Fl (cornersA (x0, x1, y0, y1)) k) ∧ s11 = .int .i64 k ∧ Hid ((Up w wr ∧ Box wr w.heap.size #[.slice a n c, .int .i64 home, .slice sa sn sc, .slice ca cn cc] 28 ∧ Box wr (w.heap.size + 1) (offA o) 32) ∧ Box wr gc #[.int .i64 (x0), .int .i64 (y0), .int .i64 (x0), .int .i64 (y1), .int .i64 (x1), .int .i64 (y0), .int .i64 (x1), .int .i64 (y1)] 30)) (fun _ _ _ s11 _ => 4 - (intOf s11).toNat)
  case atStart => exact ⟨0, by omega, rfl, rfl, rfl, rfl, H0⟩
  case round =>
    obtain ⟨k, hk4, rfl, rfl, rfl, rfl, HI⟩ := hrel
    clear H0
    have s0 := HI.out.1.2.1.cell 0 rfl
    have s1 := HI.out.1.2.1.cell 1 rfl
    have s2 := HI.out.1.2.1.cell 2 rfl
    have s3 := HI.out.1.2.1.cell 3 rfl
    have ls := HI.out.1.2.1.lt
    have f0 := HI.out.1.2.2.cell 0 rfl
    have f1 := HI.out.1.2.2.cell 1 rfl
    have f2 := HI.out.1.2.2.cell 2 rfl
    have f3 := HI.out.1.2.2.cell 3 rfl
    have f4 := HI.out.1.2.2.cell 4 rfl
    have f5 := HI.out.1.2.2.cell 5 rfl
    have f6 := HI.out.1.2.2.cell 6 rfl
    have f7 := HI.out.1.2.2.cell 7 rfl
    have f8 := HI.out.1.2.2.cell 8 rfl
    have f9 := HI.out.1.2.2.cell 9 rfl
    have f10 := HI.out.1.2.2.cell 10 rfl
    have lf := HI.out.1.2.2.lt
    have lc := HI.out.2.lt
    by_cases hlt : k < 4
    · have hkb : decide ((k : Int) < 4) = true := by simp; omega
      have hkn : decide (k < 4) = true := by simp; omega
      obtain ⟨p, C, D, fb, fr, fl, hp, hsl, h1, h2, h3, d1, d2, d3, hm1, hm2⟩ := HCO.out k hlt
      obtain ⟨cc0, cc1⟩ := corner_cells hp
      have c0 := HI.out.2.cell _ cc0
      have c1 := HI.out.2.cell _ cc1
      have w1 := cnt_le Fb (cornersA (x0, x1, y0, y1)) k
      have w2 := cnt_le Fr (cornersA (x0, x1, y0, y1)) k
      have w3 := cnt_le Fl (cornersA (x0, x1, y0, y1)) k
      have u1 := cnt_succ (f := Fb) hp
      have u2 := cnt_succ (f := Fr) hp
      have u3 := cnt_succ (f := Fl) hp
      rw [h1] at u1
      rw [h2] at u2
      rw [h3] at u3
      obtain ⟨px, py⟩ := p
      dsimp only at c0 c1 hsl
      have HSL := hide hsl
      obtain ⟨M, hM⟩ : ∃ M, o.wide * D = M := ⟨_, rfl⟩
      have hMn : -o.wide * D = -M := by rw [Int.neg_mul, hM]
      rw [hM] at d2 d3 hm1 hm2
      clear h1 h2 h3 hsl cc0 cc1 hp
      by_cases q1 : D ≤ 0
      · skip
        by_cases q2 : C < -M
        · skip
          by_cases q3 : M < C
          · skip
            rw [d1, decide_eq_true q1] at u1
            rw [if_pos rfl] at u1
            rw [d2, decide_eq_true q2] at u2
            rw [if_pos rfl] at u2
            rw [d3, decide_eq_true q3] at u3
            rw [if_pos rfl] at u3
            clear d1 d2 d3
            have HU1 := hide u1
            have HU2 := hide u2
            have HU3 := hide u3
            clear u1 u2 u3
            go_wp2_with fail
            ((first | with_reducible refine wp_region_ext2 (by kernel_rfl) (by kernel_rfl) ?_ | refine wp_region_ext (by kernel_rfl) (by kernel_rfl) ?_); (repeat (go_big_quiet_step ((go_at_call 120; with_reducible exact Gives.inRegion (HSL.out _ (HI.out.1.1.ext _)))))); refine wpQuiet_nil ?_; intro _ hw'; obtain ⟨_, hw''⟩ := hw'; subst hw'')
            go_wp2_with fail
            go_roundw
            case rel => exact ⟨k + 1, by omega, by rw [HU1.out]; go_num, by rw [HU2.out]; go_num, by rw [HU3.out]; go_num, by go_num, hide ⟨⟨HI.out.1.1.trans (by repeat (first | with_reducible exact Up.refl _ | with_reducible apply Up.plus | apply Up.ext | apply Up.alloc | apply Up.drew | (refine Up.setCell ?_ (by simp; try omega) _))), HI.out.1.2.1.up (by repeat (first | with_reducible exact Up.refl _ | with_reducible apply Up.plus | apply Up.ext | apply Up.alloc | apply Up.drew | (refine Up.setCell ?_ (by simp; try omega) _))), HI.out.1.2.2.up (by repeat (first | with_reducible exact Up.refl _ | with_reducible apply Up.plus | apply Up.ext | apply Up.alloc | apply Up.drew | (refine Up.setCell ?_ (by simp; try omega) _)))⟩, HI.out.2.up (by repeat (first | with_reducible exact Up.refl _ | with_reducible apply Up.plus | apply Up.ext | apply Up.alloc | apply Up.drew | (refine Up.setCell ?_ (by simp; try omega) _)))⟩⟩
            case measure => simp [intOf]; omega
          · skip
            rw [d1, decide_eq_true q1] at u1
            rw [if_pos rfl] at u1
            rw [d2, decide_eq_true q2] at u2
            rw [if_pos rfl] at u2
            rw [d3, decide_eq_false q3] at u3
            rw [if_neg (by simp)] at u3
            clear d1 d2 d3
            have HU1 := hide u1
            have HU2 := hide u2
            have HU3 := hide u3
            clear u1 u2 u3
            go_wp2_with fail
            ((first | with_reducible refine wp_region_ext2 (by kernel_rfl) (by kernel_rfl) ?_ | refine wp_region_ext (by kernel_rfl) (by kernel_rfl) ?_); (repeat (go_big_quiet_step ((go_at_call 120; with_reducible exact Gives.inRegion (HSL.out _ (HI.out.1.1.ext _)))))); refine wpQuiet_nil ?_; intro _ hw'; obtain ⟨_, hw''⟩ := hw'; subst hw'')
            go_wp2_with fail
            go_roundw
            case rel => exact ⟨k + 1, by omega, by rw [HU1.out]; go_num, by rw [HU2.out]; go_num, by rw [HU3.out, Nat.add_zero], by go_num, hide ⟨⟨HI.out.1.1.trans (by repeat (first | with_reducible exact Up.refl _ | with_reducible apply Up.plus | apply Up.ext | apply Up.alloc | apply Up.drew | (refine Up.setCell ?_ (by simp; try omega) _))), HI.out.1.2.1.up (by repeat (first | with_reducible exact Up.refl _ | with_reducible apply Up.plus | apply Up.ext | apply Up.alloc | apply Up.drew | (refine Up.setCell ?_ (by simp; try omega) _))), HI.out.1.2.2.up (by repeat (first | with_reducible exact Up.refl _ | with_reducible apply Up.plus | apply Up.ext | apply Up.alloc | apply Up.drew | (refine Up.setCell ?_ (by simp; try omega) _)))⟩, HI.out.2.up (by repeat (first | with_reducible exact Up.refl _ | with_reducible apply Up.plus | apply Up.ext | apply Up.alloc | apply Up.drew | (refine Up.setCell ?_ (by simp; try omega) _)))⟩⟩
            case measure => simp [intOf]; omega
        · skip
          by_cases q3 : M < C
          · skip
            rw [d1, decide_eq_true q1] at u1
            rw [if_pos rfl] at u1
            rw [d2, decide_eq_false q2] at u2
            rw [if_neg (by simp)] at u2
            rw [d3, decide_eq_true q3] at u3
            rw [if_pos rfl] at u3
            clear d1 d2 d3
            have HU1 := hide u1
            have HU2 := hide u2
            have HU3 := hide u3
            clear u1 u2 u3
            go_wp2_with fail
            ((first | with_reducible refine wp_region_ext2 (by kernel_rfl) (by kernel_rfl) ?_ | refine wp_region_ext (by kernel_rfl) (by kernel_rfl) ?_); (repeat (go_big_quiet_step ((go_at_call 120; with_reducible exact Gives.inRegion (HSL.out _ (HI.out.1.1.ext _)))))); refine wpQuiet_nil ?_; intro _ hw'; obtain ⟨_, hw''⟩ := hw'; subst hw'')
            go_wp2_with fail
            go_roundw
            case rel => exact ⟨k + 1, by omega, by rw [HU1.out]; go_num, by rw [HU2.out, Nat.add_zero], by rw [HU3.out]; go_num, by go_num, hide ⟨⟨HI.out.1.1.trans (by repeat (first | with_reducible exact Up.refl _ | with_reducible apply Up.plus | apply Up.ext | apply Up.alloc | apply Up.drew | (refine Up.setCell ?_ (by simp; try omega) _))), HI.out.1.2.1.up (by repeat (first | with_reducible exact Up.refl _ | with_reducible apply Up.plus | apply Up.ext | apply Up.alloc | apply Up.drew | (refine Up.setCell ?_ (by simp; try omega) _))), HI.out.1.2.2.up (by repeat (first | with_reducible exact Up.refl _ | with_reducible apply Up.plus | apply Up.ext | apply Up.alloc | apply Up.drew | (refine Up.setCell ?_ (by simp; try omega) _)))⟩, HI.out.2.up (by repeat (first | with_reducible exact Up.refl _ | with_reducible apply Up.plus | apply Up.ext | apply Up.alloc | apply Up.drew | (refine Up.setCell ?_ (by simp; try omega) _)))⟩⟩
            case measure => simp [intOf]; omega
          · skip
            rw [d1, decide_eq_true q1] at u1
            rw [if_pos rfl] at u1
            rw [d2, decide_eq_false q2] at u2
            rw [if_neg (by simp)] at u2
            rw [d3, decide_eq_false q3] at u3
            rw [if_neg (by simp)] at u3
            clear d1 d2 d3
            have HU1 := hide u1
            have HU2 := hide u2
            have HU3 := hide u3
            clear u1 u2 u3
            go_wp2_with fail
            ((first | with_reducible refine wp_region_ext2 (by kernel_rfl) (by kernel_rfl) ?_ | refine wp_region_ext (by kernel_rfl) (by kernel_rfl) ?_); (repeat (go_big_quiet_step ((go_at_call 120; with_reducible exact Gives.inRegion (HSL.out _ (HI.out.1.1.ext _)))))); refine wpQuiet_nil ?_; intro _ hw'; obtain ⟨_, hw''⟩ := hw'; subst hw'')
            go_wp2_with fail
            go_roundw
            case rel => exact ⟨k + 1, by omega, by rw [HU1.out]; go_num, by rw [HU2.out, Nat.add_zero], by rw [HU3.out, Nat.add_zero], by go_num, hide ⟨⟨HI.out.1.1.trans (by repeat (first | with_reducible exact Up.refl _ | with_reducible apply Up.plus | apply Up.ext | apply Up.alloc | apply Up.drew | (refine Up.setCell ?_ (by simp; try omega) _))), HI.out.1.2.1.up (by repeat (first | with_reducible exact Up.refl _ | with_reducible apply Up.plus | apply Up.ext | apply Up.alloc | apply Up.drew | (refine Up.setCell ?_ (by simp; try omega) _))), HI.out.1.2.2.up (by repeat (first | with_reducible exact Up.refl _ | with_reducible apply Up.plus | apply Up.ext | apply Up.alloc | apply Up.drew | (refine Up.setCell ?_ (by simp; try omega) _)))⟩, HI.out.2.up (by repeat (first | with_reducible exact Up.refl _ | with_reducible apply Up.plus | apply Up.ext | apply Up.alloc | apply Up.drew | (refine Up.setCell ?_ (by simp; try omega) _)))⟩⟩
            case measure => simp [intOf]; omega
      · skip
        by_cases q2 : C < -M
        · skip
          by_cases q3 : M < C
          · skip
            rw [d1, decide_eq_false q1] at u1
            rw [if_neg (by simp)] at u1
            rw [d2, decide_eq_true q2] at u2
            rw [if_pos rfl] at u2
            rw [d3, decide_eq_true q3] at u3
            rw [if_pos rfl] at u3
            clear d1 d2 d3
            have HU1 := hide u1
            have HU2 := hide u2
            have HU3 := hide u3
            clear u1 u2 u3
            go_wp2_with fail
            ((first | with_reducible refine wp_region_ext2 (by kernel_rfl) (by kernel_rfl) ?_ | refine wp_region_ext (by kernel_rfl) (by kernel_rfl) ?_); (repeat (go_big_quiet_step ((go_at_call 120; with_reducible exact Gives.inRegion (HSL.out _ (HI.out.1.1.ext _)))))); refine wpQuiet_nil ?_; intro _ hw'; obtain ⟨_, hw''⟩ := hw'; subst hw'')
            go_wp2_with fail
            go_roundw
            case rel => exact ⟨k + 1, by omega, by rw [HU1.out, Nat.add_zero], by rw [HU2.out]; go_num, by rw [HU3.out]; go_num, by go_num, hide ⟨⟨HI.out.1.1.trans (by repeat (first | with_reducible exact Up.refl _ | with_reducible apply Up.plus | apply Up.ext | apply Up.alloc | apply Up.drew | (refine Up.setCell ?_ (by simp; try omega) _))), HI.out.1.2.1.up (by repeat (first | with_reducible exact Up.refl _ | with_reducible apply Up.plus | apply Up.ext | apply Up.alloc | apply Up.drew | (refine Up.setCell ?_ (by simp; try omega) _))), HI.out.1.2.2.up (by repeat (first | with_reducible exact Up.refl _ | with_reducible apply Up.plus | apply Up.ext | apply Up.alloc | apply Up.drew | (refine Up.setCell ?_ (by simp; try omega) _)))⟩, HI.out.2.up (by repeat (first | with_reducible exact Up.refl _ | with_reducible apply Up.plus | apply Up.ext | apply Up.alloc | apply Up.drew | (refine Up.setCell ?_ (by simp; try omega) _)))⟩⟩
            case measure => simp [intOf]; omega
          · skip
            rw [d1, decide_eq_false q1] at u1
            rw [if_neg (by simp)] at u1
            rw [d2, decide_eq_true q2] at u2
            rw [if_pos rfl] at u2
            rw [d3, decide_eq_false q3] at u3
            rw [if_neg (by simp)] at u3
            clear d1 d2 d3
            have HU1 := hide u1
            have HU2 := hide u2
            have HU3 := hide u3
            clear u1 u2 u3
            go_wp2_with fail
            ((first | with_reducible refine wp_region_ext2 (by kernel_rfl) (by kernel_rfl) ?_ | refine wp_region_ext (by kernel_rfl) (by kernel_rfl) ?_); (repeat (go_big_quiet_step ((go_at_call 120; with_reducible exact Gives.inRegion (HSL.out _ (HI.out.1.1.ext _)))))); refine wpQuiet_nil ?_; intro _ hw'; obtain ⟨_, hw''⟩ := hw'; subst hw'')
            go_wp2_with fail
            go_roundw
            case rel => exact ⟨k + 1, by omega, by rw [HU1.out, Nat.add_zero], by rw [HU2.out]; go_num, by rw [HU3.out, Nat.add_zero], by go_num, hide ⟨⟨HI.out.1.1.trans (by repeat (first | with_reducible exact Up.refl _ | with_reducible apply Up.plus | apply Up.ext | apply Up.alloc | apply Up.drew | (refine Up.setCell ?_ (by simp; try omega) _))), HI.out.1.2.1.up (by repeat (first | with_reducible exact Up.refl _ | with_reducible apply Up.plus | apply Up.ext | apply Up.alloc | apply Up.drew | (refine Up.setCell ?_ (by simp; try omega) _))), HI.out.1.2.2.up (by repeat (first | with_reducible exact Up.refl _ | with_reducible apply Up.plus | apply Up.ext | apply Up.alloc | apply Up.drew | (refine Up.setCell ?_ (by simp; try omega) _)))⟩, HI.out.2.up (by repeat (first | with_reducible exact Up.refl _ | with_reducible apply Up.plus | apply Up.ext | apply Up.alloc | apply Up.drew | (refine Up.setCell ?_ (by simp; try omega) _)))⟩⟩
            case measure => simp [intOf]; omega
        · skip
          by_cases q3 : M < C
          · skip
            rw [d1, decide_eq_false q1] at u1
            rw [if_neg (by simp)] at u1
            rw [d2, decide_eq_false q2] at u2
            rw [if_neg (by simp)] at u2
            rw [d3, decide_eq_true q3] at u3
            rw [if_pos rfl] at u3
            clear d1 d2 d3
            have HU1 := hide u1
            have HU2 := hide u2
            have HU3 := hide u3
            clear u1 u2 u3
            go_wp2_with fail
            ((first | with_reducible refine wp_region_ext2 (by kernel_rfl) (by kernel_rfl) ?_ | refine wp_region_ext (by kernel_rfl) (by kernel_rfl) ?_); (repeat (go_big_quiet_step ((go_at_call 120; with_reducible exact Gives.inRegion (HSL.out _ (HI.out.1.1.ext _)))))); refine wpQuiet_nil ?_; intro _ hw'; obtain ⟨_, hw''⟩ := hw'; subst hw'')
            go_wp2_with fail
            go_roundw
            case rel => exact ⟨k + 1, by omega, by rw [HU1.out, Nat.add_zero], by rw [HU2.out, Nat.add_zero], by rw [HU3.out]; go_num, by go_num, hide ⟨⟨HI.out.1.1.trans (by repeat (first | with_reducible exact Up.refl _ | with_reducible apply Up.plus | apply Up.ext | apply Up.alloc | apply Up.drew | (refine Up.setCell ?_ (by simp; try omega) _))), HI.out.1.2.1.up (by repeat (first | with_reducible exact Up.refl _ | with_reducible apply Up.plus | apply Up.ext | apply Up.alloc | apply Up.drew | (refine Up.setCell ?_ (by simp; try omega) _))), HI.out.1.2.2.up (by repeat (first | with_reducible exact Up.refl _ | with_reducible apply Up.plus | apply Up.ext | apply Up.alloc | apply Up.drew | (refine Up.setCell ?_ (by simp; try omega) _)))⟩, HI.out.2.up (by repeat (first | with_reducible exact Up.refl _ | with_reducible apply Up.plus | apply Up.ext | apply Up.alloc | apply Up.drew | (refine Up.setCell ?_ (by simp; try omega) _)))⟩⟩
            case measure => simp [intOf]; omega
          · skip
            rw [d1, decide_eq_false q1] at u1
            rw [if_neg (by simp)] at u1
            rw [d2, decide_eq_false q2] at u2
            rw [if_neg (by simp)] at u2
            rw [d3, decide_eq_false q3] at u3
            rw [if_neg (by simp)] at u3
            clear d1 d2 d3
            have HU1 := hide u1
            have HU2 := hide u2
            have HU3 := hide u3
            clear u1 u2 u3
            go_wp2_with fail
            ((first | with_reducible refine wp_region_ext2 (by kernel_rfl) (by kernel_rfl) ?_ | refine wp_region_ext (by kernel_rfl) (by kernel_rfl) ?_); (repeat (go_big_quiet_step ((go_at_call 120; with_reducible exact Gives.inRegion (HSL.out _ (HI.out.1.1.ext _)))))); refine wpQuiet_nil ?_; intro _ hw'; obtain ⟨_, hw''⟩ := hw'; subst hw'')
            go_wp2_with fail
            go_roundw
            case rel => exact ⟨k + 1, by omega, by rw [HU1.out, Nat.add_zero], by rw [HU2.out, Nat.add_zero], by rw [HU3.out, Nat.add_zero], by go_num, hide ⟨⟨HI.out.1.1.trans (by repeat (first | with_reducible exact Up.refl _ | with_reducible apply Up.plus | apply Up.ext | apply Up.alloc | apply Up.drew | (refine Up.setCell ?_ (by simp; try omega) _))), HI.out.1.2.1.up (by repeat (first | with_reducible exact Up.refl _ | with_reducible apply Up.plus | apply Up.ext | apply Up.alloc | apply Up.drew | (refine Up.setCell ?_ (by simp; try omega) _))), HI.out.1.2.2.up (by repeat (first | with_reducible exact Up.refl _ | with_reducible apply Up.plus | apply Up.ext | apply Up.alloc | apply Up.drew | (refine Up.setCell ?_ (by simp; try omega) _)))⟩, HI.out.2.up (by repeat (first | with_reducible exact Up.refl _ | with_reducible apply Up.plus | apply Up.ext | apply Up.alloc | apply Up.drew | (refine Up.setCell ?_ (by simp; try omega) _)))⟩⟩
            case measure => simp [intOf]; omega
    · obtain rfl : k = 4 := by omega
      by_cases q1 : (cnt Fb (cornersA (x0, x1, y0, y1)) 4 : Int) < 4
      · have e1 : decide ((cnt Fb (cornersA (x0, x1, y0, y1)) 4 : Int) < 4) = true := decide_eq_true q1
        by_cases q2 : (cnt Fr (cornersA (x0, x1, y0, y1)) 4 : Int) < 4
        · have e2 : decide ((cnt Fr (cornersA (x0, x1, y0, y1)) 4 : Int) < 4) = true := decide_eq_true q2
          have E1 := hide e1
          have E2 := hide e2
          go_wp2
          go_ret
          exact ⟨ret_bool (by first | rfl | (rw [E1.out, E2.out]; first | rfl | simp)), (by repeat (first | with_reducible exact HI.out.1.1 | with_reducible exact Up.refl _ | apply Up.ext | apply Up.alloc | apply Up.drew | (refine Up.setCell ?_ (by simp [World.setCell]; try omega) _)))⟩
        · have e2 : decide ((cnt Fr (cornersA (x0, x1, y0, y1)) 4 : Int) < 4) = false := decide_eq_false q2
          have E1 := hide e1
          have E2 := hide e2
          go_wp2
          go_ret
          exact ⟨ret_bool (by first | rfl | (rw [E1.out, E2.out]; first | rfl | simp)), (by repeat (first | with_reducible exact HI.out.1.1 | with_reducible exact Up.refl _ | apply Up.ext | apply Up.alloc | apply Up.drew | (refine Up.setCell ?_ (by simp [World.setCell]; try omega) _)))⟩
      · have e1 : decide ((cnt Fb (cornersA (x0, x1, y0, y1)) 4 : Int) < 4) = false := decide_eq_false q1
        have E1 := hide e1
        go_wp2
        go_ret
        exact ⟨ret_bool (by first | rfl | (rw [E1.out]; first | rfl | simp)), (by repeat (first | with_reducible exact HI.out.1.1 | with_reducible exact Up.refl _ | apply Up.ext | apply Up.alloc | apply Up.drew | (refine Up.setCell ?_ (by simp [World.setCell]; try omega) _)))⟩
end Go.Proofs.YtnaiaodnnmhdkaaGreat
