/- WatchPlaces returns true for every input: a place of an area is in the field if the area is surely seen, is not if it cannot be, and agrees only with values of the area. No conditions. -/
import Derived.Test.YtnaiaodnnmhdkaaW6l
import Derived.Test.YtnaiaodnnmhdkaaStore
import Derived.Test.YtnaiaodnnmhdkaaFloat
import Derived.JoinedOf
import Derived.JoinedAt
import Derived.ChangeSame
import Derived.OpenShut
namespace Go.Proofs.Ytnaiaodnnmhdkaa
set_option linter.unusedVariables false
set_option linter.unusedSimpArgs false
open Go.RowKit Go.ChangeShapes Go.WideShapes Go.ChangeAt Go.Joins Go.Shelf

set_option maxRecDepth 100000 in
set_option maxHeartbeats 100000000 in
theorem wplaces_law (v0 : Value) {w : World} (hN : Nums w v0) (dx dy ww hh qx qy : Int) (bdx : -9223372036854775808 ≤ dx ∧ dx ≤ 9223372036854775807) (bdy : -9223372036854775808 ≤ dy ∧ dy ≤ 9223372036854775807) (bww : -9223372036854775808 ≤ ww ∧ ww ≤ 9223372036854775807) (bhh : -9223372036854775808 ≤ hh ∧ hh ≤ 9223372036854775807) (bqx : -9223372036854775808 ≤ qx ∧ qx ≤ 9223372036854775807) (bqy : -9223372036854775808 ≤ qy ∧ qy ≤ 9223372036854775807) :
    Gives Try.prog 3 #[v0, .int .i64 dx, .int .i64 dy, .int .i64 ww, .int .i64 hh, .int .i64 qx, .int .i64 qy] w (.bool true) := by
  have HM := hide (made6_any hN)
  have HA := hide (fun w => awake6_any w)
  clear hN
  (unfold Gives; go_enter Try.func3, Try.ntmps3)
  go_wp2_with fail
  go_at_call 6
  refine HM.out.mono ?_
  rintro _ W ⟨r, a, n, c, sa, sn, sc, ca, cn, cc, s, X, Y, o, p, rfl, hL, hXY, ho, hW⟩
  have hu : Up w W := ⟨p, hW⟩
  clear hW HM
  obtain ⟨home, hhome⟩ : ∃ h, s.home = h := ⟨_, rfl⟩
  rw [hhome]
  go_wp2_with fail
  go_at_call 8
  obtain ⟨G, hG⟩ : ∃ G, W.heap.size = G := ⟨_, rfl⟩
  rw [hG]
  refine forgetC (M6 w a n c sa sn sc ca cn cc s home X Y o G) ⟨(by repeat (first | with_reducible exact hu | with_reducible exact Up.refl _ | apply Up.ext | apply Up.alloc | apply Up.drew | (refine Up.setCell ?_ (by simp [World.setCell]; try omega) _))), hL.up (by repeat (first | with_reducible exact Up.refl _ | with_reducible apply Up.plus | apply Up.ext | apply Up.alloc | apply Up.drew | (refine Up.setCell ?_ (by simp; try omega) _))), hhome, by rw [← hG]; exact (by repeat (first | exact Box.mk rfl | (refine Box.mk ?_; simp; done) | apply Box.ext | apply Box.drew | apply Box.alloc | apply Box.two1 | (refine Box.other ?_ (by omega) _ _))), by rw [← hG]; exact (by repeat (first | exact Box.mk rfl | (refine Box.mk ?_; simp; done) | apply Box.ext | apply Box.drew | apply Box.alloc | apply Box.two1 | (refine Box.other ?_ (by omega) _ _))), by rw [← hG]; exact (by repeat (first | exact Box.mk rfl | (refine Box.mk ?_; simp; done) | apply Box.ext | apply Box.drew | apply Box.alloc | apply Box.two1 | (refine Box.other ?_ (by omega) _ _)))⟩ ?_
  intro V hV
  have HV := hide hV
  have KN := hide (fun U => near6_any X Y dx dy (by omega) (by omega) bdx bdy U)
  obtain ⟨x2, hx2, x20, x21⟩ : ∃ x, X + dx % 601 - 300 = x ∧ -4300 ≤ x ∧ x ≤ 4300 := ⟨_, rfl, by omega, by omega⟩
  obtain ⟨y2, hy2, y20, y21⟩ : ∃ x, Y + dy % 601 - 300 = x ∧ -4300 ≤ x ∧ x ≤ 4300 := ⟨_, rfl, by omega, by omega⟩
  rw [hx2, hy2] at KN
  have KA := hide (fun U => around6_any x2 y2 ww hh (by omega) (by omega) bww bhh U)
  obtain ⟨a0, ha0, a00, a01⟩ : ∃ x, x2 - ww % 300 = x ∧ -5000 ≤ x ∧ x ≤ x2 := ⟨_, rfl, by omega, by omega⟩
  obtain ⟨a1, ha1, a10, a11⟩ : ∃ x, x2 + ww % 200 = x ∧ x2 ≤ x ∧ x ≤ 5000 := ⟨_, rfl, by omega, by omega⟩
  obtain ⟨a2, ha2, a20, a21⟩ : ∃ x, y2 - hh % 200 = x ∧ -5000 ≤ x ∧ x ≤ y2 := ⟨_, rfl, by omega, by omega⟩
  obtain ⟨a3, ha3, a30, a31⟩ : ∃ x, y2 + hh % 300 = x ∧ y2 ≤ x ∧ x ≤ 5000 := ⟨_, rfl, by omega, by omega⟩
  rw [ha0, ha1, ha2, ha3] at KA
  obtain ⟨u, u0, u1, KI1⟩ := inspan_any a0 a1 qx (by omega) (by omega) (by omega) bqx
  obtain ⟨v, v00, v1, KI2⟩ := inspan_any a2 a3 qy (by omega) (by omega) (by omega) bqy
  replace KI1 := hide KI1
  replace KI2 := hide KI2
  have HE := hide (places_facts (a := (a0, a1, a2, a3)) (q := (u, v)) ho (by unfold ABd; dsimp only; omega) ⟨⟨u0, u1⟩, v00, v1⟩)
  clear hu hL hhome hG hV ho hx2 hy2 ha0 ha1 ha2 ha3 bdx bdy bww bhh bqx bqy hXY x20 x21 y20 y21 a00 a01 a10 a11 a20 a21 a30 a31 u0 u1 v00 v1
  refine (KN.out _).mono ?_
  intro e1
  go_wp2_with fail
  go_at_call 7
  refine (KA.out _).mono ?_
  intro e2
  go_wp2_with fail
  obtain ⟨H, hH⟩ : ∃ H, H = V.heap.size + (e1.plus e2).os.size := ⟨_, rfl⟩
  rw [← hH]
  refine forgetW (fun U => Up V U ∧ Box U H #[.int .i64 (a0), .int .i64 (a1), .int .i64 (a2), .int .i64 (a3)] 40) ⟨(by repeat (first | with_reducible exact Up.refl _ | with_reducible apply Up.plus | apply Up.ext | apply Up.alloc | apply Up.drew | (refine Up.setCell ?_ (by simp; try omega) _))), by rw [hH]; exact (by repeat (first | exact Box.mk rfl | (refine Box.mk ?_; simp; done) | apply Box.ext | apply Box.drew | apply Box.alloc | apply Box.two1 | (refine Box.other ?_ (by omega) _ _)))⟩ ?_
  rintro U ⟨hu, bh⟩
  have HB := hide (And.intro (HV.out.more hu) bh)
  clear hu bh HV KN KA hH
  have h0 := HB.out.2.cell 0 rfl
  have h1 := HB.out.2.cell 1 rfl
  have h2 := HB.out.2.cell 2 rfl
  have h3 := HB.out.2.cell 3 rfl
  have lh := HB.out.2.lt
  refine wp_region_float (al := [(9, 20, #[.int .i64 (0), .int .i64 (0)], 32)]) (mv := fun _ => false) [10] [0, 1, 2, 3, 4, 5, 6, 7, 8] (by kernel_rfl) (by kernel_rfl) (makes1 ⟨_, rfl, rfl, fun _ => rfl, fun _ _ => by simp [go_sem]⟩) (cls_ext _) (by first | exact drew_in2 _ _ | exact drew_in _) (Nat.le_refl _) ?_
  simp only [withOps, List.filterMap_cons, List.filterMap_nil, List.getElem?_toArray, List.getElem?_cons_zero, List.getElem?_cons_succ, Option.map_some]
  (repeat (first | (apply walkF_pure (base := fun p : Ext => ext _ p) rfl rfl rfl (by kernel_rfl); · (intro px K hK; go_big_quiet_op; first | exact hK | (apply Exists.intro; refine ⟨fun _ => ?_, ?_⟩; (· ((first | (go_at_call 9; with_reducible exact Gives.inFloat (KI1.out _)) | (go_at_call 9; with_reducible exact Gives.inFloat (KI2.out _))))); exact hK))) | (apply walkF_skip rfl; simp only [Act.put, List.setIfInBounds_toArray, List.set_cons_zero, List.set_cons_succ])))
  refine walkF_nil (end1 (fun Q U1 hq hU bq => ?_))
  simp only [Act.put, List.setIfInBounds_toArray, List.set_cons_zero, List.set_cons_succ]
  (try simp only [List.filterMap_cons, List.filterMap_nil, List.getElem?_toArray, List.getElem?_cons_zero, List.getElem?_cons_succ])
  have hU1 : Up U U1 := hU
  have HC := hide (And.intro (HB.out.1.more hU1) (And.intro (HB.out.2.up hU1) bq))
  have HQ := hide (And.intro hU1 hq)
  clear hU hU1 bq h0 h1 h2 h3 lh KI1 KI2 hq
  have z0 := HC.out.2.2.cell 0 rfl
  have z1 := HC.out.2.2.cell 1 rfl
  have fz0 := HC.out.2.2.frozen 0
  have fz1 := HC.out.2.2.frozen 1
  have lz := HC.out.2.2.lt
  have k0 := HC.out.1.s.cell 0 rfl
  have k1 := HC.out.1.s.cell 1 rfl
  have k2 := HC.out.1.s.cell 2 rfl
  have k3 := HC.out.1.s.cell 3 rfl
  have lk := HC.out.1.s.lt
  have o0 := HC.out.1.o.cell 0 rfl
  have o1 := HC.out.1.o.cell 1 rfl
  have o2 := HC.out.1.o.cell 2 rfl
  have o3 := HC.out.1.o.cell 3 rfl
  have o4 := HC.out.1.o.cell 4 rfl
  have o5 := HC.out.1.o.cell 5 rfl
  have o6 := HC.out.1.o.cell 6 rfl
  have o7 := HC.out.1.o.cell 7 rfl
  have o8 := HC.out.1.o.cell 8 rfl
  have o9 := HC.out.1.o.cell 9 rfl
  have o10 := HC.out.1.o.cell 10 rfl
  have lo := HC.out.1.o.lt
  have h0 := HC.out.2.1.cell 0 rfl
  have h1 := HC.out.2.1.cell 1 rfl
  have h2 := HC.out.2.1.cell 2 rfl
  have h3 := HC.out.2.1.cell 3 rfl
  have lh := HC.out.2.1.lt
  have lGo := HB.out.1.o.lt
  have lHo := HB.out.2.lt
  have nG0 : G ≠ Q := by have := HQ.out.2; omega
  have nG1 : G + 1 ≠ Q := by have := HQ.out.2; omega
  have nG2 : G + 1 + 1 ≠ Q := by have := HQ.out.2; omega
  have nGH : H ≠ Q := by have := HQ.out.2; omega
  go_wp2_with fail
  go_at_call 10
  refine forgetC (fun U2 => Up U U2 ∧ Box U2 Q #[.int .i64 (u), .int .i64 (v)] 32) ⟨((HQ.out.1.setCell (q := ⟨Q, 0, none⟩) HQ.out.2 _).setCell (q := ⟨Q, 1, none⟩) HQ.out.2 _), (HC.out.2.2.set 0 (.int .i64 u)).set 1 (.int .i64 v)⟩ ?_
  rintro U2 ⟨hu2, bq2⟩
  have HD := hide (And.intro (HB.out.1.more hu2) bq2)
  clear k0 k1 k2 k3 lk o0 o1 o2 o3 o4 o5 o6 o7 o8 o9 o10 lo h0 h1 h2 h3 lh
  clear lGo lHo hu2 bq2 z0 z1 fz0 fz1 lz HC HQ HB
  obtain ⟨may, sure, v1, v2, F, l1, l2, is, g1, g2, g3, c1, c2, c3, c4, c5⟩ := HE.out
  clear HE
  have hall : (may = false ∧ sure = false ∧ F = false ∧ is = false) ∨ (may = true ∧ sure = false ∧ F = false ∧ is = false) ∨ (may = true ∧ sure = false ∧ F = true ∧ is = false) ∨ (may = true ∧ sure = false ∧ F = true ∧ is = true) ∨ (may = true ∧ sure = true ∧ F = true ∧ is = false) ∨ (may = true ∧ sure = true ∧ F = true ∧ is = true) := by
    revert c1 c2 c3 c4
    cases may <;> cases sure <;> cases F <;> cases is <;> simp
  clear c1 c2 c3 c4
  replace g1 := hide g1
  replace g2 := hide g2
  replace g3 := hide g3
  rcases hall with ⟨rfl, rfl, rfl, rfl⟩ | ⟨rfl, rfl, rfl, rfl⟩ | ⟨rfl, rfl, rfl, rfl⟩ | ⟨rfl, rfl, rfl, rfl⟩ | ⟨rfl, rfl, rfl, rfl⟩ | ⟨rfl, rfl, rfl, rfl⟩
  all_goals
    try obtain ⟨n1, n2, n3⟩ := c5 rfl
    clear c5
    refine (HD.out.1.view g1.out).mono ?_
    intro e3
    have k0 := HD.out.1.s.cell 0 rfl
    have k1 := HD.out.1.s.cell 1 rfl
    have k2 := HD.out.1.s.cell 2 rfl
    have k3 := HD.out.1.s.cell 3 rfl
    have lk := HD.out.1.s.lt
    have o0 := HD.out.1.o.cell 0 rfl
    have o1 := HD.out.1.o.cell 1 rfl
    have o2 := HD.out.1.o.cell 2 rfl
    have o3 := HD.out.1.o.cell 3 rfl
    have o4 := HD.out.1.o.cell 4 rfl
    have o5 := HD.out.1.o.cell 5 rfl
    have o6 := HD.out.1.o.cell 6 rfl
    have o7 := HD.out.1.o.cell 7 rfl
    have o8 := HD.out.1.o.cell 8 rfl
    have o9 := HD.out.1.o.cell 9 rfl
    have o10 := HD.out.1.o.cell 10 rfl
    have lo := HD.out.1.o.lt
    have z0 := HD.out.2.cell 0 rfl
    have z1 := HD.out.2.cell 1 rfl
    have lz := HD.out.2.lt
    go_wp2_with fail
    go_at_call 11
    refine ((HD.out.1.more (by repeat (first | with_reducible exact Up.refl _ | with_reducible apply Up.plus | apply Up.ext | apply Up.alloc | apply Up.drew | (refine Up.setCell ?_ (by simp; try omega) _)))).field g2.out).mono ?_
    intro e4
    go_wp2_with fail
    go_at_call 12
    refine ((HD.out.1.more (by repeat (first | with_reducible exact Up.refl _ | with_reducible apply Up.plus | apply Up.ext | apply Up.alloc | apply Up.drew | (refine Up.setCell ?_ (by simp; try omega) _)))).reads g3.out).mono ?_
    intro e5
    go_wp2_with fail
    go_at_call 13
    refine (HA.out _).mono ?_
    intro e6
    go_wp2_with fail
    go_ret
    exact ⟨rfl, (by repeat (first | with_reducible exact HD.out.1.u | with_reducible exact Up.refl _ | apply Up.ext | apply Up.alloc | apply Up.drew | (refine Up.setCell ?_ (by simp [World.setCell]; try omega) _)))⟩

set_option maxRecDepth 100000 in
theorem wplaces_lifted (os : Os) (started : os.Started) (H : Type) (enc : TypeId × Value → H) :
    ReturnsInHanded {} Try.checked os 3 .any (Rows.watchPlacesSpec.pre6 enc Try.prog Try.f3 Rows.watchPlacesRow.domain false) (Rows.watchPlacesSpec.post enc Try.prog Try.f3 false true false false) := by
  refine returnsInHanded_of_change (C := Try.checked) knob_own started (by kernel_rfl) Try.func3
    (ChangeSpec.witness6 (enc := enc) (C := Try.checked) false ⟨#[], #[.slice none 0 0, .int .i64 0, .int .i64 0, .int .i64 0, .int .i64 0, .int .i64 0, .int .i64 0], []⟩ 8 (by kernel_rfl) (by kernel_rfl) (by kernel_rfl) (by kernel_rfl)) ?_
  intro W base args ds gs before hval0 hW _ _
  have hval : ∀ (j : Nat) t v, Try.f3.params[j]? = some t → args[j]? = some v → Value.okWide Try.prog W .any base t v := hval0
  have hW' := hW
  obtain ⟨p, q, hA0, hV, rfl, _, _⟩ := hW
  have hA : DataW.TrodAll enc Try.prog W 0 (fun _ => true) true Try.f3.params.toList args.toList ds p := hA0
  rw [Try.params3] at hA hval
  obtain ⟨v0, vs0, d0, ds0, p0, q0, hargs, rfl, rfl, h0, r0⟩ := trodAll_cons hA
  obtain ⟨v1, vs1, d1, ds1, p1, q1, rfl, rfl, rfl, h1, r1⟩ := trodAll_cons r0
  obtain ⟨v2, vs2, d2, ds2, p2, q2, rfl, rfl, rfl, h2, r2⟩ := trodAll_cons r1
  obtain ⟨v3, vs3, d3, ds3, p3, q3, rfl, rfl, rfl, h3, r3⟩ := trodAll_cons r2
  obtain ⟨v4, vs4, d4, ds4, p4, q4, rfl, rfl, rfl, h4, r4⟩ := trodAll_cons r3
  obtain ⟨v5, vs5, d5, ds5, p5, q5, rfl, rfl, rfl, h5, r5⟩ := trodAll_cons r4
  obtain ⟨v6, vs6, d6, ds6, p6, q6, rfl, rfl, rfl, h6, r6⟩ := trodAll_cons r5
  obtain ⟨rfl, rfl, rfl⟩ := trodAll_nil r6
  obtain rfl : args = #[v0, v1, v2, v3, v4, v5, v6] := by cases args; simp_all
  obtain ⟨rfl, rfl⟩ := trodVars_none hV
  have hlt0 : ∀ x ∈ p0, x.block < W.heap.size := fun x hx => hW'.lt x (by simp [hx])
  obtain ⟨hn0, shut0⟩ := open_nums (hval 0 22 v0 rfl rfl) h0 hlt0
  obtain ⟨a1, rfl, rfl, rfl, w1⟩ := open_int Try.underlying2 (hval 1 2 v1 rfl rfl) h1
  obtain ⟨a2, rfl, rfl, rfl, w2⟩ := open_int Try.underlying2 (hval 2 2 v2 rfl rfl) h2
  obtain ⟨a3, rfl, rfl, rfl, w3⟩ := open_int Try.underlying2 (hval 3 2 v3 rfl rfl) h3
  obtain ⟨a4, rfl, rfl, rfl, w4⟩ := open_int Try.underlying2 (hval 4 2 v4 rfl rfl) h4
  obtain ⟨a5, rfl, rfl, rfl, w5⟩ := open_int Try.underlying2 (hval 5 2 v5 rfl rfl) h5
  obtain ⟨a6, rfl, rfl, rfl, w6⟩ := open_int Try.underlying2 (hval 6 2 v6 rfl rfl) h6
  clear hA0 hval0
  simp only [List.append_nil] at hW'
  refine (wplaces_law v0 hn0 a1 a2 a3 a4 a5 a6 (i64_bds w1) (i64_bds w2) (i64_bds w3) (i64_bds w4) (i64_bds w5) (i64_bds w6) ).mono fun px => ?_
  exact ⟨_, rfl, post_of_below (pa := (p0 ++ (([] : List MemPlace) ++ (([] : List MemPlace) ++ (([] : List MemPlace) ++ (([] : List MemPlace) ++ (([] : List MemPlace) ++ (([] : List MemPlace) ++ [])))))))) (pv := []) hW' (fun _ _ _ => (trodAll_cons_mk (shut_bool Try.underlying4 _) trodAll_mk0)) (fun sp hsp => (trodAll_cons_mk (shut0 _ sp (Up.below ⟨px, rfl⟩) (fun x hx => hsp x (by simp [hx]))) (trodAll_cons_mk (shut_int Try.underlying2 w1) (trodAll_cons_mk (shut_int Try.underlying2 w2) (trodAll_cons_mk (shut_int Try.underlying2 w3) (trodAll_cons_mk (shut_int Try.underlying2 w4) (trodAll_cons_mk (shut_int Try.underlying2 w5) (trodAll_cons_mk (shut_int Try.underlying2 w6) trodAll_mk0)))))))) (fun _ _ => rfl) (by simp)
    (Up.below ⟨px, rfl⟩) (ok_one (by kernel_rfl) rfl (okWide_bool_mk Try.underlying4 _))⟩

theorem wplaces_holds : Rows.WatchPlacesSaid :=
  OpenClaim.holds_of_wide 3 Try.f3 rfl rfl rfl rfl rfl rfl rfl ⟨rfl, rfl, rfl, rfl, rfl⟩ rfl rfl rfl rfl rfl (by kernel_rfl) Try.func3 (by kernel_rfl)
    (of_decide_eq_true (by kernel_rfl)) (by unfold Func.isWrapper; rw [if_neg (by decide +kernel)]; exact ⟨rfl, rfl⟩)
    (fun os started H enc _ => wplaces_lifted os started H enc)
#print axioms wplaces_holds
end Go.Proofs.Ytnaiaodnnmhdkaa
