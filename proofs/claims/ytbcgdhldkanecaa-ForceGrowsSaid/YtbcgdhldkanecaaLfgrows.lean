/- ForceGrows returns true for every input: a heavier body pulls no less, a farther one no more, one within its radius no more when nearer. No conditions. -/
import Derived.Test.YtbcgdhldkanecaaPostn
import Derived.Test.YtbcgdhldkanecaaPostb
import Derived.Test.YtbcgdhldkanecaaPoint
import Derived.Test.YtbcgdhldkanecaaShown
import Derived.Test.YtbcgdhldkanecaaGrowF
import Derived.JoinedOf
import Derived.JoinedAt
import Derived.ChangeSame
import Derived.OpenShut
namespace Go.Proofs.Ytbcgdhldkanecaa
open Go.RowKit Go.ChangeShapes Go.WideShapes Go.ChangeAt Go.Joins Go.Shelf

theorem gOne {mu r x : Int} (mu0 : 0 ≤ mu) (mu1 : mu ≤ 1000000) (r0 : 0 ≤ r) (r1 : r ≤ 40) (x0 : 1 ≤ x) (x1 : x ≤ 1000) : oneV [⟨mu, r, [(0, 0)]⟩] 0 0 0 (-x, -x, 0, 0) = (gP mu r x, 0) := by
  have hb : bodyE ⟨mu, r, [(0, 0)]⟩ = 0 := by
    unfold bodyE
    rw [if_neg (by simp [withinB]; omega), if_neg (by simp), if_neg (by simp), if_neg (by simp [nearV, withinB])]
  have hw : worldE [⟨mu, r, [(0, 0)]⟩] 0 = 0 := by
    unfold worldE
    rw [if_neg (by simp), if_neg (by simp), if_pos (by simp [firstE, hb]), if_neg (by simp)]
  have ha : askedE [⟨mu, r, [(0, 0)]⟩] 0 (0, 0) (0, 0) 0 0 (-x, -x, 0, 0) = 0 := by
    unfold askedE
    rw [if_pos hw, if_pos (by decide), if_pos (by decide), if_pos ?_, if_pos (by simp [limB]; omega)]
    have c1 := check_ok (a := -x) (b := -x) (by omega) (by omega) (by omega)
    have c2 := check_ok (a := 0) (b := 0) (by omega) (by omega) (by omega)
    have hfar : farA (-x) (-x) 0 0 = true := by unfold farA; simp [farB, withinB]; omega
    unfold areaE
    simp only
    rw [if_pos (valid_ok c1 c2), if_pos hfar]
  unfold oneV
  rw [if_pos ha, if_neg (by simp)]
  rfl

set_option maxRecDepth 100000 in
set_option maxHeartbeats 100000000 in
theorem fgrow_law (v0 : Value) {w : World} (hN : Nums w v0) (more far : Int) (b1 : -9223372036854775808 ≤ more ∧ more ≤ 9223372036854775807) (b2 : -9223372036854775808 ≤ far ∧ far ≤ 9223372036854775807) :
    Gives Try.prog 5 #[v0, .int .i64 more, .int .i64 far] w (.bool true) := by
  obtain ⟨sa, sn, sc, rfl⟩ := hN.form
  have KR1 := hide (fun t W hu hb t0 t1 => range_any w _ hN w.heap.size t 0 100000 W hu hb (Nat.le_refl _) t0 t1 (by omega) (by omega) (by omega))
  have KR2 := hide (fun t W hu hb t0 t1 => range_any w _ hN w.heap.size t 0 40 W hu hb (Nat.le_refl _) t0 t1 (by omega) (by omega) (by omega))
  have KR3 := hide (fun t W hu hb t0 t1 => range_any w _ hN w.heap.size t 1 400 W hu hb (Nat.le_refl _) t0 t1 (by omega) (by omega) (by omega))
  have KM1 := hide (fun W => mod64_any more 5000 b1.1 b1.2 (by omega) (by omega) W)
  have KM2 := hide (fun W => mod64_any far 300 b2.1 b2.2 (by omega) (by omega) W)
  obtain ⟨m, hm, m0, m1⟩ : ∃ m, more % 5000 = m ∧ 0 ≤ m ∧ m < 5000 := ⟨_, rfl, by omega, by omega⟩
  obtain ⟨f, hf, f0, f1⟩ : ∃ m, far % 300 = m ∧ 0 ≤ m ∧ m < 300 := ⟨_, rfl, by omega, by omega⟩
  rw [hm] at KM1
  rw [hf] at KM2
  clear hN hm hf b1 b2
  (unfold Gives; go_enter Try.func5, Try.ntmps5)
  go_wp2_with fail
  refine (newring_any _ _ _ _).mono ?_
  rintro _ _ ⟨rfl, rfl⟩
  go_wp2_with fail
  go_at_call 28
  refine (KM1.out _).mono ?_
  intro q1
  go_wp2_with fail
  go_at_call 28
  refine (KM2.out _).mono ?_
  intro q2
  go_wp2_with fail
  go_at_call 12
  refine (KR1.out 0 _ (by repeat (first | with_reducible exact Up.refl _ | with_reducible apply Up.plus | apply Up.ext | apply Up.alloc | apply Up.drew | (refine Up.setCell ?_ (by simp; try omega) _))) (by repeat (first | exact Box.mk rfl | (refine Box.mk ?_; simp; done) | apply Box.ext | apply Box.drew | apply Box.alloc | apply Box.two1 | (refine Box.other ?_ (by omega) _ _))) (by omega) (by omega)).mono ?_
  rintro _ _ ⟨mu, p1, mu0, mu1, rfl, rfl⟩
  go_wp2_with fail
  go_at_call 12
  refine (KR2.out _ _ (by repeat (first | with_reducible exact Up.refl _ | with_reducible apply Up.plus | apply Up.ext | apply Up.alloc | apply Up.drew | (refine Up.setCell ?_ (by simp; try omega) _))) (by repeat (first | exact Box.mk rfl | (refine Box.mk ?_; simp; done) | apply Box.ext | apply Box.drew | apply Box.alloc | apply Box.two1 | (refine Box.other ?_ (by omega) _ _))) (by omega) (by omega)).mono ?_
  rintro _ _ ⟨r, p2, r0, r1, rfl, rfl⟩
  go_wp2_with fail
  go_at_call 12
  refine (KR3.out _ _ (by repeat (first | with_reducible exact Up.refl _ | with_reducible apply Up.plus | apply Up.ext | apply Up.alloc | apply Up.drew | (refine Up.setCell ?_ (by simp; try omega) _))) (by repeat (first | exact Box.mk rfl | (refine Box.mk ?_; simp; done) | apply Box.ext | apply Box.drew | apply Box.alloc | apply Box.two1 | (refine Box.other ?_ (by omega) _ _))) (by omega) (by omega)).mono ?_
  rintro _ _ ⟨x, p3, x0, x1, rfl, rfl⟩
  go_wp2_with fail
  generalize (((q1.plus q2).plus p1).plus p2) = px
  obtain ⟨N, hN⟩ : ∃ N, w.heap.size + 1 + px.os.size = N := ⟨_, rfl⟩
  rw [hN]
  refine forgetW (fun W => Up w W ∧ Box W N #[.int .i64 (0), .int .i64 (0)] 26 ∧ Box W (N + 1) #[.int .i64 mu, .int .i64 r, .slice (some ⟨N, 0, none⟩) 1 1] 31 ∧ Box W (N + 1 + 1) #[.int .i64 mu, .int .i64 r, .slice (some ⟨N, 0, none⟩) 1 1] 31 ∧ Box W (N + 1 + 1 + 1) #[.slice (some ⟨N + 1 + 1, 0, none⟩) 1 1, .int .i64 0] 34)
    ⟨(by repeat (first | with_reducible exact Up.refl _ | with_reducible apply Up.plus | apply Up.ext | apply Up.alloc | apply Up.drew | (refine Up.setCell ?_ (by simp; try omega) _))), by rw [← hN]; exact (by repeat (first | exact Box.mk rfl | (refine Box.mk ?_; simp; done) | apply Box.ext | apply Box.drew | apply Box.alloc | apply Box.two1 | (refine Box.other ?_ (by omega) _ _))), by rw [← hN]; exact (by repeat (first | exact Box.mk rfl | (refine Box.mk ?_; simp; done) | apply Box.ext | apply Box.drew | apply Box.alloc | apply Box.two1 | (refine Box.other ?_ (by omega) _ _))), by rw [← hN]; exact (by repeat (first | exact Box.mk rfl | (refine Box.mk ?_; simp; done) | apply Box.ext | apply Box.drew | apply Box.alloc | apply Box.two1 | (refine Box.other ?_ (by omega) _ _))), by rw [← hN]; exact (by repeat (first | exact Box.mk rfl | (refine Box.mk ?_; simp; done) | apply Box.ext | apply Box.drew | apply Box.alloc | apply Box.two1 | (refine Box.other ?_ (by omega) _ _)))⟩ ?_
  have hNl : w.heap.size < N := by omega
  clear hN KR1 KR2 KR3 KM1 KM2
  rintro W ⟨hu, bv, b8, bb, b9⟩
  -- what the calls hand back
  have GO : ∀ (W' : World) (mu' y : Int), Box W' N #[.int .i64 (0), .int .i64 (0)] 26 → Box W' (N + 1 + 1) #[.int .i64 mu', .int .i64 r, .slice (some ⟨N, 0, none⟩) 1 1] 31 → 0 ≤ mu' → mu' ≤ 1000000 → 1 ≤ y → y ≤ 1000 →
      Gives Try.prog 14 #[.agg #[.slice (some ⟨N + 1 + 1, 0, none⟩) 1 1, .int .i64 0], .int .i64 0, .int .i64 0, .agg #[.int .i64 (-y), .int .i64 (-y), .int .i64 (0), .int .i64 (0)]] W' (.tuple #[.agg #[.int .i64 (gP mu' r y).1, .int .i64 (gP mu' r y).2.1, .int .i64 (gP mu' r y).2.2.1, .int .i64 (gP mu' r y).2.2.2], .int .i64 0]) := fun W' mu' y h1 h2 hm0 hm1 hy0 hy1 => by
    have v1 : Vecs (fun _ => True) W' (.slice (some ⟨N, 0, none⟩) 1 1) [(0, 0)] := Vecs.of (K := fun _ => True) (l := [(0, 0)]) h1 trivial rfl (by decide) (fun i q hq => by
      match i, hq with
      | 0, hq => cases hq; exact ⟨rfl, rfl, ⟨by decide, by decide⟩, by decide, by decide⟩) 1
    have v2 : Bods (fun _ => True) W' (.slice (some ⟨N + 1 + 1, 0, none⟩) 1 1) [⟨mu', r, [(0, 0)]⟩] := Bods.of (K := fun _ => True) (l := [⟨mu', r, [(0, 0)]⟩]) h2 trivial rfl (by simp) (fun i q hq => by
      match i, hq with
      | 0, hq => cases hq; exact ⟨_, rfl, rfl, rfl, ⟨by simp only; omega, by simp only; omega⟩, ⟨by simp only; omega, by simp only; omega⟩, v1⟩) 1
    have := fOne_any v2 (home := 0) ⟨by decide, by decide⟩ 0 0 (-y, -y, 0, 0)
    rw [gOne hm0 hm1 r0 r1 hy0 hy1] at this
    exact this
  obtain ⟨l1, l2⟩ := g_low (mu := mu) (r := r) (x := x) mu0 (by omega) r0 r1 x0 (by omega)
  obtain ⟨l3, l4⟩ := g_low (mu := mu) (r := r) (x := x + f) mu0 (by omega) r0 r1 (by omega) (by omega)
  obtain ⟨l5, l6⟩ := g_low (mu := mu + m) (r := r) (x := x) (by omega) (by omega) r0 r1 x0 (by omega)
  have F1 : x < r ∨ ((gP mu r (x + f)).1 ≤ (gP mu r x).1 ∧ (gP mu r (x + f)).2.1 ≤ (gP mu r x).2.1) := by
    rcases Int.lt_or_le x r with h | h
    · exact .inl h
    · exact .inr (g_farther mu0 (by omega) r0 r1 x0 (by omega) f0 h)
  have F2 : r < x + f ∨ ((gP mu r x).1 ≤ (gP mu r (x + f)).1 ∧ (gP mu r x).2.1 ≤ (gP mu r (x + f)).2.1) := by
    rcases Int.lt_or_le r (x + f) with h | h
    · exact .inl h
    · exact .inr (g_within mu0 (by omega) r0 r1 x0 f0 h)
  obtain ⟨F3, F4⟩ := g_heavier (mu := mu) (m := m) (r := r) (x := x) mu0 m0 (by omega) r0 r1 x0 (by omega)
  have O1 := fun W' h1 h2 => GO W' mu x h1 h2 mu0 (by omega) x0 (by omega)
  have O2 := fun W' h1 h2 => GO W' mu (x + f) h1 h2 mu0 (by omega) (by omega) (by omega)
  have O3 := fun W' h1 h2 => GO W' (mu + m) x h1 h2 (by omega) (by omega) x0 (by omega)
  generalize gP mu r x = A at *
  generalize gP mu r (x + f) = B at *
  generalize gP (mu + m) r x = C at *
  obtain ⟨a1, a2, a3⟩ := A
  obtain ⟨c1, c2, c3⟩ := B
  obtain ⟨d1, d2, d3⟩ := C
  dsimp only at l1 l2 l3 l4 l5 l6 F1 F2 F3 F4 O1 O2 O3
  subst l2 l4 l6
  dsimp only at O1 O2 O3
  rw [show -(x + f) = -x - f by omega] at O2
  have Oh1 := hide O1
  have Oh2 := hide O2
  have Oh3 := hide O3
  clear GO O1 O2 O3
  have HW := hide (And.intro hu (And.intro bv (And.intro b8 (And.intro bb b9))))
  have e0 := b9.cell 0 rfl
  have e1 := b9.cell 1 rfl
  have le := b9.lt
  have KO1 := hide (fun W' (h : Up W W') => Oh1.out W' (bv.up h) (bb.up h))
  clear hu bv b8 bb b9
  refine wp_region_floatz (al := [(8, 11, #[.int .i64 (0), .int .i64 (0), .int .i64 (0), .int .i64 (0)], 38)]) (mv := fun _ => false) 7 [9, 10] [0, 1, 2, 3, 4, 5, 6, 7] (by kernel_rfl) (by kernel_rfl) rfl (fun _ => rfl) (fun _ _ _ _ h => h) (makes1 ⟨_, rfl, rfl, fun _ => rfl, fun _ _ => by simp [go_sem]⟩) (cls_ext _) (by first | exact drew_in2 _ _ | exact drew_in _) (Nat.le_refl _) ?_
  simp only [withOps, List.filterMap_cons, List.filterMap_nil, List.getElem?_toArray, List.getElem?_cons_zero, List.getElem?_cons_succ, Option.map_some]
  (repeat (first | (apply walkF_pure (base := fun p : Ext => ext _ p) rfl rfl rfl (by kernel_rfl); · (intro px K hK; go_big_quiet_op; first | exact hK | (apply Exists.intro; refine ⟨fun _ => ?_, ?_⟩; (· ((first | (go_at_call 15; with_reducible exact Gives.inFloat (xat_any _ _ _)) | (go_at_call 14; with_reducible exact Gives.inFloat (KO1.out _ (by repeat (first | with_reducible exact Up.refl _ | with_reducible apply Up.plus | apply Up.ext | apply Up.alloc | apply Up.drew | (refine Up.setCell ?_ (by simp; try omega) _)))))))); exact hK))) | (apply walkF_skip rfl; simp only [Act.put, List.setIfInBounds_toArray, List.set_cons_zero, List.set_cons_succ])))
  refine walkF_lazy (.int .i64 0) rfl rfl (fun _ => by simp [go_sem]) ?_
  simp only [Act.put, List.setIfInBounds_toArray, List.set_cons_zero, List.set_cons_succ]
  refine walkF_nil (end1 (fun g V hg hV bg => ?_))
  simp only [Act.put, List.setIfInBounds_toArray, List.set_cons_zero, List.set_cons_succ]
  (try simp only [List.filterMap_cons, List.filterMap_nil, List.getElem?_toArray, List.getElem?_cons_zero, List.getElem?_cons_succ])
  have hVu : Up W V := hV
  have HV := hide (And.intro hVu bg)
  have hgl := bg.lt
  clear hV
  have g0 := bg.cell 0 rfl
  have g1 := bg.cell 1 rfl
  have g2 := bg.cell 2 rfl
  have g3 := bg.cell 3 rfl
  have fg0 := bg.frozen 0
  have fg1 := bg.frozen 1
  have fg2 := bg.frozen 2
  have fg3 := bg.frozen 3
  clear bg hVu KO1 e0 e1 le
  go_wp2_with fail
  -- the second place
  refine forgetW (fun V2 => Up w V2 ∧ Box V2 N #[.int .i64 (0), .int .i64 (0)] 26 ∧ Box V2 (N + 1) #[.int .i64 mu, .int .i64 r, .slice (some ⟨N, 0, none⟩) 1 1] 31 ∧ Box V2 (N + 1 + 1) #[.int .i64 mu, .int .i64 r, .slice (some ⟨N, 0, none⟩) 1 1] 31 ∧ Box V2 (N + 1 + 1 + 1) #[.slice (some ⟨N + 1 + 1, 0, none⟩) 1 1, .int .i64 0] 34 ∧ Box V2 g #[.int .i64 (a1), .int .i64 (a2), .int .i64 (0), .int .i64 (0)] 38) ?_ ?_
  · have hww := HW.out.1.below.size
    have n0 := HW.out.2.1.lt
    have n1 := HW.out.2.2.1.lt
    have n2 := HW.out.2.2.2.1.lt
    have n3 := HW.out.2.2.2.2.lt
    refine ⟨?_, ?_, ?_, ?_, ?_, ?_⟩
    · exact (by repeat (first | with_reducible exact HW.out.1.trans HV.out.1 | (with_reducible refine Up.setCell ?_ (by simp; omega) _)))
    · exact (by repeat (first | with_reducible exact HW.out.2.1.up HV.out.1 | (with_reducible refine Box.other ?_ (by omega) _ _)))
    · exact (by repeat (first | with_reducible exact HW.out.2.2.1.up HV.out.1 | (with_reducible refine Box.other ?_ (by omega) _ _)))
    · exact (by repeat (first | with_reducible exact HW.out.2.2.2.1.up HV.out.1 | (with_reducible refine Box.other ?_ (by omega) _ _)))
    · exact (by repeat (first | with_reducible exact HW.out.2.2.2.2.up HV.out.1 | (with_reducible refine Box.other ?_ (by omega) _ _)))
    · exact ((((HV.out.2.set 0 (.int .i64 a1)).set 1 (.int .i64 a2)).set 2 (.int .i64 0)).set 3 (.int .i64 0))
  have hgW : W.heap.size ≤ g := hg
  have hgN : N + 1 + 1 + 1 < g := by have := HW.out.2.2.2.2.lt; omega
  clear g0 fg0
  clear g1 fg1
  clear g2 fg2
  clear g3 fg3
  clear hg hgl HV HW hgW
  rintro V2 ⟨hu, bv, b8, bb, b9, bg⟩
  have HW := hide (And.intro hu (And.intro bv (And.intro b8 (And.intro bb (And.intro b9 bg)))))
  have e0 := b9.cell 0 rfl
  have e1 := b9.cell 1 rfl
  have le := b9.lt
  have KO2 := hide (fun W' (h : Up V2 W') => Oh2.out W' (bv.up h) (bb.up h))
  clear hu bv b8 bb b9 bg
  refine wp_region_floatz (al := [(10, 13, #[.int .i64 (0), .int .i64 (0), .int .i64 (0), .int .i64 (0)], 38)]) (mv := fun _ => false) 9 [11, 12] [0, 1, 2, 3, 4, 5, 6, 7, 8, 9] (by kernel_rfl) (by kernel_rfl) rfl (fun _ => rfl) (fun _ _ _ _ h => h) (makes1 ⟨_, rfl, rfl, fun _ => rfl, fun _ _ => by simp [go_sem]⟩) (cls_ext _) (by first | exact drew_in2 _ _ | exact drew_in _) (Nat.le_refl _) ?_
  simp only [withOps, List.filterMap_cons, List.filterMap_nil, List.getElem?_toArray, List.getElem?_cons_zero, List.getElem?_cons_succ, Option.map_some]
  (repeat (first | (apply walkF_pure (base := fun p : Ext => ext _ p) rfl rfl rfl (by kernel_rfl); · (intro px K hK; go_big_quiet_op; first | exact hK | (apply Exists.intro; refine ⟨fun _ => ?_, ?_⟩; (· ((first | (go_at_call 15; with_reducible exact Gives.inFloat (xat_any _ _ _)) | (go_at_call 14; with_reducible exact Gives.inFloat (KO2.out _ (by repeat (first | with_reducible exact Up.refl _ | with_reducible apply Up.plus | apply Up.ext | apply Up.alloc | apply Up.drew | (refine Up.setCell ?_ (by simp; try omega) _)))))))); exact hK))) | (apply walkF_skip rfl; simp only [Act.put, List.setIfInBounds_toArray, List.set_cons_zero, List.set_cons_succ])))
  refine walkF_lazy (.int .i64 0) rfl rfl (fun _ => by simp [go_sem]) ?_
  simp only [Act.put, List.setIfInBounds_toArray, List.set_cons_zero, List.set_cons_succ]
  refine walkF_nil (end1 (fun k V hk hV bk => ?_))
  simp only [Act.put, List.setIfInBounds_toArray, List.set_cons_zero, List.set_cons_succ]
  (try simp only [List.filterMap_cons, List.filterMap_nil, List.getElem?_toArray, List.getElem?_cons_zero, List.getElem?_cons_succ])
  have hVu : Up V2 V := hV
  have HV := hide (And.intro hVu bk)
  have hkl := bk.lt
  have bgV := HW.out.2.2.2.2.2.up hVu
  have b8V := HW.out.2.2.1.up hVu
  have hgl := bgV.lt
  have h8l := b8V.lt
  have hgk : g ≠ k := by have := HW.out.2.2.2.2.2.lt; omega
  have h8k : N + 1 ≠ k := by have := HW.out.2.2.1.lt; omega
  clear hV
  have k0 := bk.cell 0 rfl
  have k1 := bk.cell 1 rfl
  have k2 := bk.cell 2 rfl
  have k3 := bk.cell 3 rfl
  have fk0 := bk.frozen 0
  have fk1 := bk.frozen 1
  have fk2 := bk.frozen 2
  have fk3 := bk.frozen 3
  have g0 := bgV.cell 0 rfl
  have g1 := bgV.cell 1 rfl
  have g2 := bgV.cell 2 rfl
  have g3 := bgV.cell 3 rfl
  have z1 := b8V.cell 1 rfl
  clear bk hVu KO2 e0 e1 le bgV b8V
  go_wp2_with fail
  refine forgetW (fun V3 => Up w V3 ∧ Box V3 N #[.int .i64 (0), .int .i64 (0)] 26 ∧ Box V3 (N + 1) #[.int .i64 mu, .int .i64 r, .slice (some ⟨N, 0, none⟩) 1 1] 31 ∧ Box V3 (N + 1 + 1) #[.int .i64 mu, .int .i64 r, .slice (some ⟨N, 0, none⟩) 1 1] 31 ∧ Box V3 (N + 1 + 1 + 1) #[.slice (some ⟨N + 1 + 1, 0, none⟩) 1 1, .int .i64 0] 34 ∧ Box V3 g #[.int .i64 (a1), .int .i64 (a2), .int .i64 (0), .int .i64 (0)] 38 ∧ Box V3 k #[.int .i64 (c1), .int .i64 (c2), .int .i64 (0), .int .i64 (0)] 38) ?_ ?_
  · have hww := HW.out.1.below.size
    have n0 := HW.out.2.1.lt
    have n1 := HW.out.2.2.1.lt
    have n2 := HW.out.2.2.2.1.lt
    have n3 := HW.out.2.2.2.2.1.lt
    have n4 := HW.out.2.2.2.2.2.lt
    refine ⟨?_, ?_, ?_, ?_, ?_, ?_, ?_⟩
    · exact (by repeat (first | with_reducible exact HW.out.1.trans HV.out.1 | (with_reducible refine Up.setCell ?_ (by simp; omega) _)))
    · exact (by repeat (first | with_reducible exact HW.out.2.1.up HV.out.1 | (with_reducible refine Box.other ?_ (by omega) _ _)))
    · exact (by repeat (first | with_reducible exact HW.out.2.2.1.up HV.out.1 | (with_reducible refine Box.other ?_ (by omega) _ _)))
    · exact (by repeat (first | with_reducible exact HW.out.2.2.2.1.up HV.out.1 | (with_reducible refine Box.other ?_ (by omega) _ _)))
    · exact (by repeat (first | with_reducible exact HW.out.2.2.2.2.1.up HV.out.1 | (with_reducible refine Box.other ?_ (by omega) _ _)))
    · exact (by repeat (first | with_reducible exact HW.out.2.2.2.2.2.up HV.out.1 | (with_reducible refine Box.other ?_ (by omega) _ _)))
    · exact ((((HV.out.2.set 0 (.int .i64 c1)).set 1 (.int .i64 c2)).set 2 (.int .i64 0)).set 3 (.int .i64 0))
  have hkN : N + 1 + 1 + 1 < k := by have := HW.out.2.2.2.2.1.lt; omega
  clear hk hkl hgl h8l h8k HV HW z1 g0 g1 g2 g3 k0 k1 k2 k3 fk0 fk1 fk2 fk3
  rintro V3 ⟨hu, bv, b8, bb, b9, bg, bk⟩
  have HW := hide (And.intro hu (And.intro bv (And.intro b8 (And.intro bb (And.intro b9 (And.intro bg bk))))))
  have g0 := bg.cell 0 rfl
  have g1 := bg.cell 1 rfl
  have g2 := bg.cell 2 rfl
  have g3 := bg.cell 3 rfl
  have k0 := bk.cell 0 rfl
  have k1 := bk.cell 1 rfl
  have k2 := bk.cell 2 rfl
  have k3 := bk.cell 3 rfl
  have fk0 := bk.frozen 0
  have fk1 := bk.frozen 1
  have fk2 := bk.frozen 2
  have fk3 := bk.frozen 3
  have z1 := b8.cell 1 rfl
  have y0 := bb.cell 0 rfl
  have fy0 := bb.frozen 0
  have e0 := b9.cell 0 rfl
  have e1 := b9.cell 1 rfl
  have l3' := b9.lt
  have l2' := bb.lt
  have l8' := b8.lt
  have lg := bg.lt
  have lk := bk.lt
  have hn1 : g ≠ N + 1 + 1 := by omega
  have hn2 : k ≠ N + 1 + 1 := by omega
  have hn3 : N + 1 + 1 + 1 ≠ N + 1 + 1 := by omega
  clear hu bv b8 bb b9 bg bk
  ((first | with_reducible refine wp_region_ext2 (by kernel_rfl) (by kernel_rfl) ?_ | refine wp_region_ext (by kernel_rfl) (by kernel_rfl) ?_); (repeat (go_big_quiet_step ((go_at_call 25; with_reducible exact Gives.inRegion (xof_any _ _ _))))); refine wpQuiet_nil ?_; intro _ hw'; obtain ⟨_, hw''⟩ := hw'; subst hw'')
  go_wp2_with fail
  all_goals (
    refine forgetW (fun V4 => Up w V4 ∧ Box V4 N #[.int .i64 (0), .int .i64 (0)] 26 ∧ Box V4 (N + 1 + 1) #[.int .i64 (mu + m), .int .i64 r, .slice (some ⟨N, 0, none⟩) 1 1] 31 ∧ Box V4 (N + 1 + 1 + 1) #[.slice (some ⟨N + 1 + 1, 0, none⟩) 1 1, .int .i64 0] 34 ∧ Box V4 g #[.int .i64 (a1), .int .i64 (a2), .int .i64 (0), .int .i64 (0)] 38 ∧ Box V4 k #[.int .i64 (c1), .int .i64 (c2), .int .i64 (0), .int .i64 (0)] 38) ?_ ?_
    · refine ⟨?_, ?_, ?_, ?_, ?_, ?_⟩
      · exact (by repeat (first | with_reducible exact HW.out.1 | with_reducible apply Up.ext | with_reducible apply Up.alloc | with_reducible apply Up.drew | (with_reducible refine Up.setCell ?_ (by simp; omega) _)))
      · exact (by repeat (first | with_reducible exact HW.out.2.1 | with_reducible apply Box.ext | with_reducible apply Box.alloc | with_reducible apply Box.drew | (with_reducible refine Box.other ?_ (by omega) _ _)))
      · exact (by (repeat (first | with_reducible apply Box.ext | with_reducible apply Box.alloc | with_reducible apply Box.drew)); exact HW.out.2.2.2.1.set 0 (.int .i64 (mu + m)))
      · exact (by repeat (first | with_reducible exact HW.out.2.2.2.2.1 | with_reducible apply Box.ext | with_reducible apply Box.alloc | with_reducible apply Box.drew | (with_reducible refine Box.other ?_ (by omega) _ _)))
      · exact (by repeat (first | with_reducible exact HW.out.2.2.2.2.2.1 | with_reducible apply Box.ext | with_reducible apply Box.alloc | with_reducible apply Box.drew | (with_reducible refine Box.other ?_ (by omega) _ _)))
      · exact (by repeat (first | with_reducible exact HW.out.2.2.2.2.2.2 | with_reducible apply Box.ext | with_reducible apply Box.alloc | with_reducible apply Box.drew | (with_reducible refine Box.other ?_ (by omega) _ _)))
    clear HW y0 fy0 e0 e1 l3' l2' l8' lg lk z1 g0 g1 g2 g3 k0 k1 k2 k3 fk0 fk1 fk2 fk3
    rintro V4 ⟨hu, bv, bb, b9, bg, bk⟩
    have HW := hide (And.intro hu (And.intro bv (And.intro bb (And.intro b9 (And.intro bg bk)))))
    have e0 := b9.cell 0 rfl
    have e1 := b9.cell 1 rfl
    have le := b9.lt
    have KO3 := hide (fun W' (h : Up V4 W') => Oh3.out W' (bv.up h) (bb.up h))
    clear hu bv bb b9 bg bk
    refine wp_region_floatz (al := []) (mv := fun _ => false) 7 [8, 9] [0, 1, 2, 3, 4, 5, 6, 7] (by kernel_rfl) (by kernel_rfl) rfl (fun _ => rfl) (fun _ _ _ _ h => h) makes0 (cls_ext _) (by first | exact drew_in2 _ _ | exact drew_in _) (Nat.le_refl _) ?_
    simp only [withOps, List.filterMap_cons, List.filterMap_nil, List.getElem?_toArray, List.getElem?_cons_zero, List.getElem?_cons_succ, Option.map_some]
    (repeat (first | (apply walkF_pure (base := fun p : Ext => ext _ p) rfl rfl rfl (by kernel_rfl); · (intro px K hK; go_big_quiet_op; first | exact hK | (apply Exists.intro; refine ⟨fun _ => ?_, ?_⟩; (· ((first | (go_at_call 15; with_reducible exact Gives.inFloat (xat_any _ _ _)) | (go_at_call 14; with_reducible exact Gives.inFloat (KO3.out _ (by repeat (first | with_reducible exact Up.refl _ | with_reducible apply Up.plus | apply Up.ext | apply Up.alloc | apply Up.drew | (refine Up.setCell ?_ (by simp; try omega) _)))))))); exact hK))) | (apply walkF_skip rfl; simp only [Act.put, List.setIfInBounds_toArray, List.set_cons_zero, List.set_cons_succ])))
    refine walkF_lazy (.int .i64 0) rfl rfl (fun _ => by simp [go_sem]) ?_
    simp only [Act.put, List.setIfInBounds_toArray, List.set_cons_zero, List.set_cons_succ]
    refine walkF_nil (end0 fun V hV => ?_)
    (try simp only [List.filterMap_cons, List.filterMap_nil, List.getElem?_toArray, List.getElem?_cons_zero, List.getElem?_cons_succ])
    have hVu : Up V4 V := hV
    have HV := hide hVu
    have bgV := HW.out.2.2.2.2.1.up hVu
    have bkV := HW.out.2.2.2.2.2.up hVu
    have lg := bgV.lt
    have lk := bkV.lt
    clear hV
    have k0 := bkV.cell 0 rfl
    have k1 := bkV.cell 1 rfl
    have k2 := bkV.cell 2 rfl
    have k3 := bkV.cell 3 rfl
    have fk0 := bkV.frozen 0
    have fk1 := bkV.frozen 1
    have fk2 := bkV.frozen 2
    have fk3 := bkV.frozen 3
    have g0 := bgV.cell 0 rfl
    have g1 := bgV.cell 1 rfl
    have g2 := bgV.cell 2 rfl
    have g3 := bgV.cell 3 rfl
    have hgk2 : g ≠ k := hgk
    clear hVu KO3 e0 e1 le bgV bkV
    go_wp2_with (go_at_call 18; (with_reducible refine (awake_any _).mono ?_); intro _)
    go_ret
    refine ⟨rfl, ?_⟩
    have n1 := HW.out.1.below.size
    exact (by repeat (first | with_reducible exact HW.out.1.trans HV.out | with_reducible apply Up.ext | with_reducible apply Up.alloc | with_reducible apply Up.drew | (with_reducible refine Up.setCell ?_ (by simp; omega) _))))

set_option maxRecDepth 100000 in
theorem fgrow_lifted (os : Os) (started : os.Started) (H : Type) (enc : TypeId × Value → H) :
    ReturnsInHanded {} Try.checked os 5 .any (Rows.forceGrowsSpec.pre6 enc Try.prog Try.f5 Rows.forceGrowsRow.domain false) (Rows.forceGrowsSpec.post enc Try.prog Try.f5 false true false false) := by
  refine returnsInHanded_of_change (C := Try.checked) knob_own started (by kernel_rfl) Try.func5
    (ChangeSpec.witness6 (enc := enc) (C := Try.checked) false ⟨#[], #[.slice none 0 0, .int .i64 0, .int .i64 0], []⟩ 8 (by kernel_rfl) (by kernel_rfl) (by kernel_rfl) (by kernel_rfl)) ?_
  intro W base args ds gs before hval0 hW _ _
  have hval : ∀ (j : Nat) t v, Try.f5.params[j]? = some t → args[j]? = some v → Value.okWide Try.prog W .any base t v := hval0
  have hW' := hW
  obtain ⟨p, q, hA0, hV, rfl, _, _⟩ := hW
  have hA : DataW.TrodAll enc Try.prog W 0 (fun _ => true) true Try.f5.params.toList args.toList ds p := hA0
  rw [Try.params5] at hA hval
  obtain ⟨v0, vs0, d0, ds0, p0, q0, hargs, rfl, rfl, h0, r0⟩ := trodAll_cons hA
  obtain ⟨v1, vs1, d1, ds1, p1, q1, rfl, rfl, rfl, h1, r1⟩ := trodAll_cons r0
  obtain ⟨v2, vs2, d2, ds2, p2, q2, rfl, rfl, rfl, h2, r2⟩ := trodAll_cons r1
  obtain ⟨rfl, rfl, rfl⟩ := trodAll_nil r2
  obtain rfl : args = #[v0, v1, v2] := by cases args; simp_all
  obtain ⟨rfl, rfl⟩ := trodVars_none hV
  have hlt0 : ∀ x ∈ p0, x.block < W.heap.size := fun x hx => hW'.lt x (by simp [hx])
  obtain ⟨hn0, shut0⟩ := open_nums (hval 0 22 v0 rfl rfl) h0 hlt0
  obtain ⟨a1, rfl, rfl, rfl, w1⟩ := open_int Try.underlying2 (hval 1 2 v1 rfl rfl) h1
  obtain ⟨a2, rfl, rfl, rfl, w2⟩ := open_int Try.underlying2 (hval 2 2 v2 rfl rfl) h2
  clear hA0 hval0
  simp only [List.append_nil] at hW'
  refine (fgrow_law v0 hn0 a1 a2 (i64_bds w1) (i64_bds w2) ).mono fun px => ?_
  exact ⟨_, rfl, post_of_below (pa := (p0 ++ (([] : List MemPlace) ++ (([] : List MemPlace) ++ [])))) (pv := []) hW' (fun _ _ _ => (trodAll_cons_mk (shut_bool Try.underlying4 _) trodAll_mk0)) (fun sp hsp => (trodAll_cons_mk (shut0 _ sp (Up.below ⟨px, rfl⟩) (fun x hx => hsp x (by simp [hx]))) (trodAll_cons_mk (shut_int Try.underlying2 w1) (trodAll_cons_mk (shut_int Try.underlying2 w2) trodAll_mk0)))) (fun _ _ => rfl) (by simp)
    (Up.below ⟨px, rfl⟩) (ok_one (by kernel_rfl) rfl (okWide_bool_mk Try.underlying4 _))⟩

theorem fgrow_holds : Rows.ForceGrowsSaid :=
  OpenClaim.holds_of_wide 5 Try.f5 rfl rfl rfl rfl rfl rfl rfl ⟨rfl, rfl, rfl, rfl, rfl⟩ rfl rfl rfl rfl rfl (by kernel_rfl) Try.func5 (by kernel_rfl)
    (of_decide_eq_true (by kernel_rfl)) (by unfold Func.isWrapper; rw [if_neg (by decide +kernel)]; exact ⟨rfl, rfl⟩)
    (fun os started H enc _ => fgrow_lifted os started H enc)
#print axioms fgrow_holds
end Go.Proofs.Ytbcgdhldkanecaa
