/- WatchApart returns true for every input: telling apart does not depend on the order, and no area is told apart from itself, nor from one that has a place in common with it. No conditions. -/
import Derived.Test.YtnaiaodnnmhdkaaW6l
import Derived.Test.YtnaiaodnnmhdkaaStore
import Derived.JoinedOf
import Derived.JoinedAt
import Derived.ChangeSame
import Derived.OpenShut
namespace Go.Proofs.Ytnaiaodnnmhdkaa
set_option linter.unusedVariables false
set_option linter.unusedSimpArgs false
open Go.RowKit Go.ChangeShapes Go.WideShapes Go.ChangeAt Go.Joins Go.Shelf

theorem apart_cases {a0 a1 a2 a3 d0 d1 d2 d3 : Int} (is : Bool) (h : is = true → ¬ (a0 ≤ d1 ∧ d0 ≤ a1 ∧ a2 ≤ d3 ∧ d2 ≤ a3)) :
    (¬ a0 ≤ d1 ∨ (a0 ≤ d1 ∧ ¬ d0 ≤ a1) ∨ (a0 ≤ d1 ∧ d0 ≤ a1 ∧ ¬ a2 ≤ d3) ∨ (a0 ≤ d1 ∧ d0 ≤ a1 ∧ a2 ≤ d3 ∧ ¬ d2 ≤ a3)) ∨ ((a0 ≤ d1 ∧ d0 ≤ a1 ∧ a2 ≤ d3 ∧ d2 ≤ a3) ∧ is = false) := by
  by_cases hc : a0 ≤ d1 ∧ d0 ≤ a1 ∧ a2 ≤ d3 ∧ d2 ≤ a3
  · refine .inr ⟨hc, ?_⟩
    cases is with
    | false => rfl
    | true => exact absurd hc (h rfl)
  · exact .inl (by omega)
theorem apart_facts {s : SkyD} {o : OffD} {a0 a1 a2 a3 d0 d1 d2 d3 : Int} (ho : offE s o = 0) (hA : ABd (a0, a1, a2, a3)) (hB : ABd (d0, d1, d2, d3)) : ∃ is : Bool, apartV s o (a0, a1, a2, a3) (d0, d1, d2, d3) = is ∧ apartV s o (d0, d1, d2, d3) (a0, a1, a2, a3) = is ∧ apartV s o (a0, a1, a2, a3) (a0, a1, a2, a3) = false ∧
    ((¬ a0 ≤ d1 ∨ (a0 ≤ d1 ∧ ¬ d0 ≤ a1) ∨ (a0 ≤ d1 ∧ d0 ≤ a1 ∧ ¬ a2 ≤ d3) ∨ (a0 ≤ d1 ∧ d0 ≤ a1 ∧ a2 ≤ d3 ∧ ¬ d2 ≤ a3)) ∨ ((a0 ≤ d1 ∧ d0 ≤ a1 ∧ a2 ≤ d3 ∧ d2 ≤ a3) ∧ is = false)) :=
  ⟨_, rfl, apart_comm s o _ _, apart_self ho hA, apart_cases _ fun h => apart_common ho hA hB h⟩
set_option maxRecDepth 100000 in
set_option maxHeartbeats 100000000 in
theorem wapart_law (v0 : Value) {w : World} (hN : Nums w v0) (dx dy ww hh vv : Int) (bdx : -9223372036854775808 ≤ dx ∧ dx ≤ 9223372036854775807) (bdy : -9223372036854775808 ≤ dy ∧ dy ≤ 9223372036854775807) (bww : -9223372036854775808 ≤ ww ∧ ww ≤ 9223372036854775807) (bhh : -9223372036854775808 ≤ hh ∧ hh ≤ 9223372036854775807) (bvv : -9223372036854775808 ≤ vv ∧ vv ≤ 9223372036854775807) :
    Gives Try.prog 5 #[v0, .int .i64 dx, .int .i64 dy, .int .i64 ww, .int .i64 hh, .int .i64 vv] w (.bool true) := by
  have HM := hide (made6_any hN)
  have HA := hide (fun w => awake6_any w)
  clear hN
  (unfold Gives; go_enter Try.func5, Try.ntmps5)
  go_wp2_with fail
  go_at_call 6
  refine HM.out.mono ?_
  rintro _ W ⟨r, a, n, c, sa, sn, sc, ca, cn, cc, s, X, Y, o, p, rfl, hL, hXY, ho, hW⟩
  have hu : Up w W := ⟨p, hW⟩
  clear hW HM
  obtain ⟨home, hhome⟩ : ∃ h, s.home = h := ⟨_, rfl⟩
  rw [hhome]
  go_wp2_with fail
  obtain ⟨G, hG⟩ : ∃ G, W.heap.size = G := ⟨_, rfl⟩
  rw [hG]
  refine forgetW (M6 w a n c sa sn sc ca cn cc s home X Y o G) ⟨(by repeat (first | with_reducible exact hu | with_reducible exact Up.refl _ | apply Up.ext | apply Up.alloc | apply Up.drew | (refine Up.setCell ?_ (by simp [World.setCell]; try omega) _))), hL.up (by repeat (first | with_reducible exact Up.refl _ | with_reducible apply Up.plus | apply Up.ext | apply Up.alloc | apply Up.drew | (refine Up.setCell ?_ (by simp; try omega) _))), hhome, by rw [← hG]; exact (by repeat (first | exact Box.mk rfl | (refine Box.mk ?_; simp; done) | apply Box.ext | apply Box.drew | apply Box.alloc | apply Box.two1 | (refine Box.other ?_ (by omega) _ _))), by rw [← hG]; exact (by repeat (first | exact Box.mk rfl | (refine Box.mk ?_; simp; done) | apply Box.ext | apply Box.drew | apply Box.alloc | apply Box.two1 | (refine Box.other ?_ (by omega) _ _))), by rw [← hG]; exact (by repeat (first | exact Box.mk rfl | (refine Box.mk ?_; simp; done) | apply Box.ext | apply Box.drew | apply Box.alloc | apply Box.two1 | (refine Box.other ?_ (by omega) _ _)))⟩ ?_
  intro V hV
  have HV := hide hV
  have KN := hide (fun U => near6_any X Y dx dy (by omega) (by omega) bdx bdy U)
  obtain ⟨x2, hx2, x20, x21⟩ : ∃ x, X + dx % 601 - 300 = x ∧ -4300 ≤ x ∧ x ≤ 4300 := ⟨_, rfl, by omega, by omega⟩
  obtain ⟨y2, hy2, y20, y21⟩ : ∃ x, Y + dy % 601 - 300 = x ∧ -4300 ≤ x ∧ x ≤ 4300 := ⟨_, rfl, by omega, by omega⟩
  rw [hx2, hy2] at KN
  have KA := hide (fun U => around6_any x2 y2 ww hh (by omega) (by omega) bww bhh U)
  obtain ⟨a0, ha0, a00, a01⟩ : ∃ x, x2 - ww % 300 = x ∧ -5000 ≤ x ∧ x ≤ x2 := ⟨_, rfl, by omega, by omega⟩
  obtain ⟨a1, ha1, a10, a11⟩ : ∃ x, x2 + ww % 200 = x ∧ x2 ≤ x ∧ x ≤ 5000 := ⟨_, rfl, by omega, by omega⟩
  obtain ⟨a2, ha2, a20, a21⟩ : ∃ x, y2 - hh % 200 = x ∧ -5000 ≤ x ∧ x ≤ y2 := ⟨_, rfl, by omega, by omega⟩
  obtain ⟨a3, ha3, a30, a31⟩ : ∃ x, y2 + hh % 300 = x ∧ y2 ≤ x ∧ x ≤ 5000 := ⟨_, rfl, by omega, by omega⟩
  rw [ha0, ha1, ha2, ha3] at KA
  have KB := hide (fun U => around6_any X Y vv ww (by omega) (by omega) bvv bww U)
  obtain ⟨d0, hd0, d00, d01⟩ : ∃ x, X - vv % 300 = x ∧ -5000 ≤ x ∧ x ≤ X := ⟨_, rfl, by omega, by omega⟩
  obtain ⟨d1, hd1, d10, d11⟩ : ∃ x, X + vv % 200 = x ∧ X ≤ x ∧ x ≤ 5000 := ⟨_, rfl, by omega, by omega⟩
  obtain ⟨d2, hd2, d20, d21⟩ : ∃ x, Y - ww % 200 = x ∧ -5000 ≤ x ∧ x ≤ Y := ⟨_, rfl, by omega, by omega⟩
  obtain ⟨d3, hd3, d30, d31⟩ : ∃ x, Y + ww % 300 = x ∧ Y ≤ x ∧ x ≤ 5000 := ⟨_, rfl, by omega, by omega⟩
  rw [hd0, hd1, hd2, hd3] at KB
  have hA : ABd (a0, a1, a2, a3) := by unfold ABd; dsimp only; omega
  have hB : ABd (d0, d1, d2, d3) := by unfold ABd; dsimp only; omega
  obtain ⟨is, g1, g2, gS, hcc⟩ := apart_facts ho hA hB
  replace g2 := hide g2
  replace gS := hide gS
  replace g1 := hide g1
  clear hA hB hu hL hhome hG hV ho hx2 hy2 ha0 ha1 ha2 ha3 hd0 hd1 hd2 hd3 bdx bdy bww bhh bvv hXY x20 x21 y20 y21 a00 a01 a10 a11 a20 a21 a30 a31 d00 d01 d10 d11 d20 d21 d30 d31
  have p0 := HV.out.p.cell 0 rfl
  have p1 := HV.out.p.cell 1 rfl
  have lp := HV.out.p.lt
  refine wp_region_float (al := [(11, 17, #[.int .i64 (0), .int .i64 (0), .int .i64 (0), .int .i64 (0)], 40), (12, 18, #[.int .i64 (0), .int .i64 (0), .int .i64 (0), .int .i64 (0)], 40)]) (mv := fun _ => false) [13, 14] [0, 1, 2, 3, 4, 5, 6, 7, 8, 9, 10] (by kernel_rfl) (by kernel_rfl) (makes2 ⟨_, rfl, rfl, fun _ => rfl, fun _ _ => by simp [go_sem]⟩ ⟨_, rfl, rfl, fun _ => rfl, fun _ _ => by simp [go_sem]⟩) (cls_ext _) (by first | exact drew_in2 _ _ | exact drew_in _) (Nat.le_refl _) ?_
  simp only [withOps, List.filterMap_cons, List.filterMap_nil, List.getElem?_toArray, List.getElem?_cons_zero, List.getElem?_cons_succ, Option.map_some]
  (repeat (first | (apply walkF_pure (base := fun p : Ext => ext _ p) rfl rfl rfl (by kernel_rfl); · (intro px K hK; go_big_quiet_op; first | exact hK | (apply Exists.intro; refine ⟨fun _ => ?_, ?_⟩; (· ((first | (go_at_call 8; with_reducible exact Gives.inFloat (KN.out _)) | (go_at_call 7; with_reducible exact Gives.inFloat (KA.out _)) | (go_at_call 7; with_reducible exact Gives.inFloat (KB.out _))))); exact hK))) | (apply walkF_skip rfl; simp only [Act.put, List.setIfInBounds_toArray, List.set_cons_zero, List.set_cons_succ])))
  refine walkF_nil (end2 (by decide) (fun H T U hn1 hn2 hn hU w1 w2 => ?_))
  simp only [Act.put, List.setIfInBounds_toArray, List.set_cons_zero, List.set_cons_succ]
  (try simp only [List.filterMap_cons, List.filterMap_nil, List.getElem?_toArray, List.getElem?_cons_zero, List.getElem?_cons_succ])
  refine tail_areas rfl rfl rfl rfl w1 w2 hn (fun W' y1 y2 hk hup => ?_)
  have hU1 : Up V U := hU
  have HB := hide (And.intro (HV.out.more (hup V hn1 hn2 hU1)) (And.intro y1 y2))
  clear p0 p1 lp
  clear hU hU1 y1 y2 hk hup w1 w2 hn HV KN KA KB hn1 hn2
  have k0 := HB.out.1.s.cell 0 rfl
  have k1 := HB.out.1.s.cell 1 rfl
  have k2 := HB.out.1.s.cell 2 rfl
  have k3 := HB.out.1.s.cell 3 rfl
  have lk := HB.out.1.s.lt
  have o0 := HB.out.1.o.cell 0 rfl
  have o1 := HB.out.1.o.cell 1 rfl
  have o2 := HB.out.1.o.cell 2 rfl
  have o3 := HB.out.1.o.cell 3 rfl
  have o4 := HB.out.1.o.cell 4 rfl
  have o5 := HB.out.1.o.cell 5 rfl
  have o6 := HB.out.1.o.cell 6 rfl
  have o7 := HB.out.1.o.cell 7 rfl
  have o8 := HB.out.1.o.cell 8 rfl
  have o9 := HB.out.1.o.cell 9 rfl
  have o10 := HB.out.1.o.cell 10 rfl
  have lo := HB.out.1.o.lt
  have h0 := HB.out.2.1.cell 0 rfl
  have h1 := HB.out.2.1.cell 1 rfl
  have h2 := HB.out.2.1.cell 2 rfl
  have h3 := HB.out.2.1.cell 3 rfl
  have lh := HB.out.2.1.lt
  have t0 := HB.out.2.2.cell 0 rfl
  have t1 := HB.out.2.2.cell 1 rfl
  have t2 := HB.out.2.2.cell 2 rfl
  have t3 := HB.out.2.2.cell 3 rfl
  have lt := HB.out.2.2.lt
  go_wp2_with fail
  go_at_call 15
  refine (HB.out.1.apart g1.out).mono ?_
  intro e1
  have hmix : (is = false ∨ is = true) := by cases is <;> simp
  rcases hcc with (h | ⟨h, h'⟩ | ⟨h, h', h''⟩ | ⟨h, h', h'', h3⟩) | ⟨⟨h, h', h'', h3⟩, rfl⟩
  case inr =>
    clear hmix
    go_wp2_with fail
    go_at_call 15
    refine ((HB.out.1.more (by repeat (first | with_reducible exact Up.refl _ | with_reducible apply Up.plus | apply Up.ext | apply Up.alloc | apply Up.drew | (refine Up.setCell ?_ (by simp; try omega) _)))).apart g2.out).mono ?_
    intro e2
    go_wp2_with fail
    go_at_call 15
    refine ((HB.out.1.more (by repeat (first | with_reducible exact Up.refl _ | with_reducible apply Up.plus | apply Up.ext | apply Up.alloc | apply Up.drew | (refine Up.setCell ?_ (by simp; try omega) _)))).apart gS.out).mono ?_
    intro e3
    go_wp2_with fail
    go_at_call 13
    refine (HA.out _).mono ?_
    intro e4
    go_wp2_with fail
    go_ret
    exact ⟨rfl, (by repeat (first | with_reducible exact HB.out.1.u | with_reducible exact Up.refl _ | apply Up.ext | apply Up.alloc | apply Up.drew | (refine Up.setCell ?_ (by simp [World.setCell]; try omega) _)))⟩
  all_goals
    rcases hmix with rfl | rfl
    all_goals
      go_wp2_with fail
      go_at_call 15
      refine ((HB.out.1.more (by repeat (first | with_reducible exact Up.refl _ | with_reducible apply Up.plus | apply Up.ext | apply Up.alloc | apply Up.drew | (refine Up.setCell ?_ (by simp; try omega) _)))).apart g2.out).mono ?_
      intro e2
      go_wp2_with fail
      go_at_call 15
      refine ((HB.out.1.more (by repeat (first | with_reducible exact Up.refl _ | with_reducible apply Up.plus | apply Up.ext | apply Up.alloc | apply Up.drew | (refine Up.setCell ?_ (by simp; try omega) _)))).apart gS.out).mono ?_
      intro e3
      go_wp2_with fail
      go_at_call 13
      refine (HA.out _).mono ?_
      intro e4
      go_wp2_with fail
      go_ret
      refine ⟨?_, (by repeat (first | with_reducible exact HB.out.1.u | with_reducible exact Up.refl _ | apply Up.ext | apply Up.alloc | apply Up.drew | (refine Up.setCell ?_ (by simp [World.setCell]; try omega) _)))⟩
      first | rfl | exact ret_bool (by simp; omega)

set_option maxRecDepth 100000 in
theorem wapart_lifted (os : Os) (started : os.Started) (H : Type) (enc : TypeId × Value → H) :
    ReturnsInHanded {} Try.checked os 5 .any (Rows.watchApartSpec.pre6 enc Try.prog Try.f5 Rows.watchApartRow.domain false) (Rows.watchApartSpec.post enc Try.prog Try.f5 false true false false) := by
  refine returnsInHanded_of_change (C := Try.checked) knob_own started (by kernel_rfl) Try.func5
    (ChangeSpec.witness6 (enc := enc) (C := Try.checked) false ⟨#[], #[.slice none 0 0, .int .i64 0, .int .i64 0, .int .i64 0, .int .i64 0, .int .i64 0], []⟩ 8 (by kernel_rfl) (by kernel_rfl) (by kernel_rfl) (by kernel_rfl)) ?_
  intro W base args ds gs before hval0 hW _ _
  have hval : ∀ (j : Nat) t v, Try.f5.params[j]? = some t → args[j]? = some v → Value.okWide Try.prog W .any base t v := hval0
  have hW' := hW
  obtain ⟨p, q, hA0, hV, rfl, _, _⟩ := hW
  have hA : DataW.TrodAll enc Try.prog W 0 (fun _ => true) true Try.f5.params.toList args.toList ds p := hA0
  rw [Try.params5] at hA hval
  obtain ⟨v0, vs0, d0, ds0, p0, q0, hargs, rfl, rfl, h0, r0⟩ := trodAll_cons hA
  obtain ⟨v1, vs1, d1, ds1, p1, q1, rfl, rfl, rfl, h1, r1⟩ := trodAll_cons r0
  obtain ⟨v2, vs2, d2, ds2, p2, q2, rfl, rfl, rfl, h2, r2⟩ := trodAll_cons r1
  obtain ⟨v3, vs3, d3, ds3, p3, q3, rfl, rfl, rfl, h3, r3⟩ := trodAll_cons r2
  obtain ⟨v4, vs4, d4, ds4, p4, q4, rfl, rfl, rfl, h4, r4⟩ := trodAll_cons r3
  obtain ⟨v5, vs5, d5, ds5, p5, q5, rfl, rfl, rfl, h5, r5⟩ := trodAll_cons r4
  obtain ⟨rfl, rfl, rfl⟩ := trodAll_nil r5
  obtain rfl : args = #[v0, v1, v2, v3, v4, v5] := by cases args; simp_all
  obtain ⟨rfl, rfl⟩ := trodVars_none hV
  have hlt0 : ∀ x ∈ p0, x.block < W.heap.size := fun x hx => hW'.lt x (by simp [hx])
  obtain ⟨hn0, shut0⟩ := open_nums (hval 0 22 v0 rfl rfl) h0 hlt0
  obtain ⟨a1, rfl, rfl, rfl, w1⟩ := open_int Try.underlying2 (hval 1 2 v1 rfl rfl) h1
  obtain ⟨a2, rfl, rfl, rfl, w2⟩ := open_int Try.underlying2 (hval 2 2 v2 rfl rfl) h2
  obtain ⟨a3, rfl, rfl, rfl, w3⟩ := open_int Try.underlying2 (hval 3 2 v3 rfl rfl) h3
  obtain ⟨a4, rfl, rfl, rfl, w4⟩ := open_int Try.underlying2 (hval 4 2 v4 rfl rfl) h4
  obtain ⟨a5, rfl, rfl, rfl, w5⟩ := open_int Try.underlying2 (hval 5 2 v5 rfl rfl) h5
  clear hA0 hval0
  simp only [List.append_nil] at hW'
  refine (wapart_law v0 hn0 a1 a2 a3 a4 a5 (i64_bds w1) (i64_bds w2) (i64_bds w3) (i64_bds w4) (i64_bds w5) ).mono fun px => ?_
  exact ⟨_, rfl, post_of_below (pa := (p0 ++ (([] : List MemPlace) ++ (([] : List MemPlace) ++ (([] : List MemPlace) ++ (([] : List MemPlace) ++ (([] : List MemPlace) ++ []))))))) (pv := []) hW' (fun _ _ _ => (trodAll_cons_mk (shut_bool Try.underlying4 _) trodAll_mk0)) (fun sp hsp => (trodAll_cons_mk (shut0 _ sp (Up.below ⟨px, rfl⟩) (fun x hx => hsp x (by simp [hx]))) (trodAll_cons_mk (shut_int Try.underlying2 w1) (trodAll_cons_mk (shut_int Try.underlying2 w2) (trodAll_cons_mk (shut_int Try.underlying2 w3) (trodAll_cons_mk (shut_int Try.underlying2 w4) (trodAll_cons_mk (shut_int Try.underlying2 w5) trodAll_mk0))))))) (fun _ _ => rfl) (by simp)
    (Up.below ⟨px, rfl⟩) (ok_one (by kernel_rfl) rfl (okWide_bool_mk Try.underlying4 _))⟩

theorem wapart_holds : Rows.WatchApartSaid :=
  OpenClaim.holds_of_wide 5 Try.f5 rfl rfl rfl rfl rfl rfl rfl ⟨rfl, rfl, rfl, rfl, rfl⟩ rfl rfl rfl rfl rfl (by kernel_rfl) Try.func5 (by kernel_rfl)
    (of_decide_eq_true (by kernel_rfl)) (by unfold Func.isWrapper; rw [if_neg (by decide +kernel)]; exact ⟨rfl, rfl⟩)
    (fun os started H enc _ => wapart_lifted os started H enc)
#print axioms wapart_holds
end Go.Proofs.Ytnaiaodnnmhdkaa
