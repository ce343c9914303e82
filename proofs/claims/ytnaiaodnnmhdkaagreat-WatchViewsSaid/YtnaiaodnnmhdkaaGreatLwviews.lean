/- WatchViews returns true for every input: the view of an area, what is told apart and what is dark is what the reference says. No conditions. -/
import Derived.Test.YtnaiaodnnmhdkaaGreatVO
import Derived.Test.YtnaiaodnnmhdkaaGreatVI
import Derived.Test.YtnaiaodnnmhdkaaGreatVH
import Derived.Test.YtnaiaodnnmhdkaaGreatVR
import Derived.Test.YtnaiaodnnmhdkaaGreatW6b
import Derived.JoinedOf
import Derived.JoinedAt
import Derived.ChangeSame
import Derived.OpenShut
namespace Go.Proofs.YtnaiaodnnmhdkaaGreat
set_option linter.unusedVariables false
set_option linter.unusedSimpArgs false
open Go.RowKit Go.ChangeShapes Go.WideShapes Go.ChangeAt Go.Joins Go.Shelf

theorem moon_cells : Tryz.prog.cellsOf 48 = 2 := by kernel_rfl
section
variable {H : Type} {enc : TypeId × Value → H} {W : World} {sp : Nat → Bool} {held : Bool}
set_option maxRecDepth 100000 in
theorem open_moon {b0 : Nat} {r : Reach} {v : Value} {d : DataW H} {p : List MemPlace} (hv : Value.okWide Tryz.prog W r b0 48 v) (h : DataW.Trod enc Tryz.prog W 0 sp held 48 v d p) :
    ∃ i x : Int, v = .agg #[.int .i64 (i), .int .i64 (x)] := by
  obtain ⟨cs, rfl, hsz⟩ := okWide_struct Tryz.underlying48 hv
  obtain ⟨l⟩ := cs
  obtain ⟨fuel, hf⟩ := h
  obtain ⟨z0, z1, k, _, _, h0, h1⟩ := trod_struct2 Tryz.underlying48 hf
  match l, hsz.trans moon_cells with
  | [c0, c1], _ =>
    simp [Value.cells, intt_cells] at h0 h1
    obtain ⟨a, e0, _, _⟩ := DataW.trod_int Tryz.underlying3 h0
    obtain ⟨b, e1, _, _⟩ := DataW.trod_int Tryz.underlying2 h1
    simp [intt_cells, ints_cells] at e0 e1
    subst e0 e1
    exact ⟨a, b, rfl⟩
end
set_option maxRecDepth 100000 in
set_option maxHeartbeats 40000000 in
theorem wviews_law {K : Nat → Prop} {w : World} {a sa ca : Option Addr} {n c sn sc cn cc : Nat} {s : SkyD} (hL : SkyL K w a n c sa sn sc ca cn cc s) (o : OffD) (x0 x1 y0 y1 z0 z1 u0 u1 m e : Int) : Gives Tryz.prog 4 #[.agg #[.slice a n c, .int .i64 s.home, .slice sa sn sc, .slice ca cn cc], .agg (offA o), .agg #[.int .i64 (x0), .int .i64 (x1), .int .i64 (y0), .int .i64 (y1)], .agg #[.int .i64 (z0), .int .i64 (z1), .int .i64 (u0), .int .i64 (u1)], .agg #[.int .i64 (m), .int .i64 (e)]] w (.bool true) := by
  have HG := hide (fun W (hu : Up w W) => bigsky_any (home := s.home) (hL.up hu))
  have HA := hide (fun W => awake6_any W)
  have HV1 := hide (fun W (hu : Up w W) => wView_any (hL.up hu) o (x0, x1, y0, y1))
  have HV2 := hide (fun W (hu : Up w W) => vView_any (hL.up hu) o (x0, x1, y0, y1))
  have HP1 := hide (fun W (hu : Up w W) => wApart_any (hL.up hu) o (x0, x1, y0, y1) (z0, z1, u0, u1))
  have HP2 := hide (fun W (hu : Up w W) => vApart_any (hL.up hu) o (x0, x1, y0, y1) (z0, z1, u0, u1))
  have HD1 := hide (fun W (hu : Up w W) => wDark_any (hL.up hu) o m e)
  have HD2 := hide (fun W (hu : Up w W) => vDark_any (hL.up hu) o m e)
  generalize viewV s o (x0, x1, y0, y1) = R at *
  obtain ⟨⟨R1, R2, R3, R4⟩, E⟩ := R
  generalize apartV s o (x0, x1, y0, y1) (z0, z1, u0, u1) = P at *
  generalize darkV s o m e = D at *
  generalize s.home = home at *
  clear hL
  unfold viewA at *
  dsimp only at *
  (unfold Gives; go_enter Tryz.func4, Tryz.ntmps4)
  go_wp2_with fail
  go_at_call 12
  refine forgetK (fun wr => Up w wr ∧ Box wr w.heap.size #[.slice a n c, .int .i64 home, .slice sa sn sc, .slice ca cn cc] 28 ∧ Box wr (w.heap.size + 1) (offA o) 32 ∧ Box wr (w.heap.size + 1 + 1) #[.int .i64 (x0), .int .i64 (x1), .int .i64 (y0), .int .i64 (y1)] 46 ∧ Box wr (w.heap.size + 1 + 1 + 1) #[.int .i64 (z0), .int .i64 (z1), .int .i64 (u0), .int .i64 (u1)] 46 ∧ Box wr (w.heap.size + 1 + 1 + 1 + 1) #[.int .i64 (m), .int .i64 (e)] 48) ⟨(by repeat (first | with_reducible exact Up.refl _ | with_reducible apply Up.plus | apply Up.ext | apply Up.alloc | apply Up.drew | (refine Up.setCell ?_ (by simp; try omega) _))), (by repeat (first | exact Box.mk rfl | (refine Box.mk ?_; simp; done) | apply Box.ext | apply Box.drew | apply Box.alloc | apply Box.two1 | (refine Box.other ?_ (by omega) _ _))), (by repeat (first | exact Box.mk rfl | (refine Box.mk ?_; simp; done) | apply Box.ext | apply Box.drew | apply Box.alloc | apply Box.two1 | (refine Box.other ?_ (by omega) _ _))), (by repeat (first | exact Box.mk rfl | (refine Box.mk ?_; simp; done) | apply Box.ext | apply Box.drew | apply Box.alloc | apply Box.two1 | (refine Box.other ?_ (by omega) _ _))), (by repeat (first | exact Box.mk rfl | (refine Box.mk ?_; simp; done) | apply Box.ext | apply Box.drew | apply Box.alloc | apply Box.two1 | (refine Box.other ?_ (by omega) _ _))), (by repeat (first | exact Box.mk rfl | (refine Box.mk ?_; simp; done) | apply Box.ext | apply Box.drew | apply Box.alloc | apply Box.two1 | (refine Box.other ?_ (by omega) _ _)))⟩ ?_
  rintro V0 ⟨hu, b0, b1, b2, b3, b4⟩
  have HB0 := hide (And.intro hu (And.intro b0 (And.intro b1 (And.intro b2 (And.intro b3 b4)))))
  clear hu b0 b1 b2 b3 b4
  have s0 := (HB0.out.2.1).cell 0 rfl
  have s1 := (HB0.out.2.1).cell 1 rfl
  have s2 := (HB0.out.2.1).cell 2 rfl
  have s3 := (HB0.out.2.1).cell 3 rfl
  have ls := (HB0.out.2.1).lt
  have f0 := (HB0.out.2.2.1).cell 0 rfl
  have f1 := (HB0.out.2.2.1).cell 1 rfl
  have f2 := (HB0.out.2.2.1).cell 2 rfl
  have f3 := (HB0.out.2.2.1).cell 3 rfl
  have f4 := (HB0.out.2.2.1).cell 4 rfl
  have f5 := (HB0.out.2.2.1).cell 5 rfl
  have f6 := (HB0.out.2.2.1).cell 6 rfl
  have f7 := (HB0.out.2.2.1).cell 7 rfl
  have f8 := (HB0.out.2.2.1).cell 8 rfl
  have f9 := (HB0.out.2.2.1).cell 9 rfl
  have f10 := (HB0.out.2.2.1).cell 10 rfl
  have lf := (HB0.out.2.2.1).lt
  have g0 := (HB0.out.2.2.2.1).cell 0 rfl
  have g1 := (HB0.out.2.2.2.1).cell 1 rfl
  have g2 := (HB0.out.2.2.2.1).cell 2 rfl
  have g3 := (HB0.out.2.2.2.1).cell 3 rfl
  have lg := (HB0.out.2.2.2.1).lt
  have k0 := (HB0.out.2.2.2.2.1).cell 0 rfl
  have k1 := (HB0.out.2.2.2.2.1).cell 1 rfl
  have k2 := (HB0.out.2.2.2.2.1).cell 2 rfl
  have k3 := (HB0.out.2.2.2.2.1).cell 3 rfl
  have lk := (HB0.out.2.2.2.2.1).lt
  have mm0 := (HB0.out.2.2.2.2.2).cell 0 rfl
  have mm1 := (HB0.out.2.2.2.2.2).cell 1 rfl
  have lmm := (HB0.out.2.2.2.2.2).lt
  refine (HG.out _ (by repeat (first | with_reducible exact HB0.out.1 | with_reducible exact Up.refl _ | with_reducible apply Up.ext | with_reducible apply Up.alloc | with_reducible apply Up.drew | (with_reducible refine Up.setCell ?_ (by simp only; omega) _)))).mono ?_
  rintro _ _ ⟨b, q, rfl, rfl⟩
  cases b
  rotate_left
  · go_wp2_with (go_at_call 13; (with_reducible refine (HA.out _).mono ?_); intro _)
    go_ret
    exact ⟨rfl, (by repeat (first | with_reducible exact HB0.out.1 | with_reducible exact Up.refl _ | with_reducible apply Up.ext | with_reducible apply Up.alloc | with_reducible apply Up.drew | (with_reducible refine Up.setCell ?_ (by simp only; omega) _)))⟩
  go_wp2_with fail
  go_at_call 22
  refine (HV1.out _ (by repeat (first | with_reducible exact HB0.out.1 | with_reducible exact Up.refl _ | with_reducible apply Up.ext | with_reducible apply Up.alloc | with_reducible apply Up.drew | (with_reducible refine Up.setCell ?_ (by simp only; omega) _)))).mono ?_
  intro q1
  go_wp2_with fail
  go_at_call 23
  refine (HV2.out _ (by repeat (first | with_reducible exact HB0.out.1 | with_reducible exact Up.refl _ | with_reducible apply Up.ext | with_reducible apply Up.alloc | with_reducible apply Up.drew | (with_reducible refine Up.setCell ?_ (by simp only; omega) _)))).mono ?_
  intro q2
  go_wp2_with fail
  ((first | with_reducible refine wp_region_ext2 (by kernel_rfl) (by kernel_rfl) ?_ | refine wp_region_ext (by kernel_rfl) (by kernel_rfl) ?_); (repeat (go_big_quiet_step ((first | (go_at_call 24; with_reducible exact Gives.inRegion (HP1.out _ (by repeat (first | with_reducible exact HB0.out.1 | with_reducible exact Up.refl _ | with_reducible apply Up.ext | with_reducible apply Up.alloc | with_reducible apply Up.drew | (with_reducible refine Up.setCell ?_ (by simp only; omega) _))))) | (go_at_call 25; with_reducible exact Gives.inRegion (HP2.out _ (by repeat (first | with_reducible exact HB0.out.1 | with_reducible exact Up.refl _ | with_reducible apply Up.ext | with_reducible apply Up.alloc | with_reducible apply Up.drew | (with_reducible refine Up.setCell ?_ (by simp only; omega) _))))) | (go_at_call 26; with_reducible exact Gives.inRegion (HD1.out _ (by repeat (first | with_reducible exact HB0.out.1 | with_reducible exact Up.refl _ | with_reducible apply Up.ext | with_reducible apply Up.alloc | with_reducible apply Up.drew | (with_reducible refine Up.setCell ?_ (by simp only; omega) _))))) | (go_at_call 27; with_reducible exact Gives.inRegion (HD2.out _ (by repeat (first | with_reducible exact HB0.out.1 | with_reducible exact Up.refl _ | with_reducible apply Up.ext | with_reducible apply Up.alloc | with_reducible apply Up.drew | (with_reducible refine Up.setCell ?_ (by simp only; omega) _))))) | (go_at_call 13; with_reducible exact Gives.inRegion (HA.out _)))))); refine wpQuiet_nil ?_; intro _ hw'; obtain ⟨_, hw''⟩ := hw'; subst hw'')
  go_wp2
  go_ret
  exact ⟨by first | rfl | exact ret_bool (by simp), (by repeat (first | with_reducible exact HB0.out.1 | with_reducible exact Up.refl _ | with_reducible apply Up.ext | with_reducible apply Up.alloc | with_reducible apply Up.drew | (with_reducible refine Up.setCell ?_ (by simp only; omega) _)))⟩
set_option maxRecDepth 100000 in
theorem wviews_lifted (os : Os) (started : os.Started) (H : Type) (enc : TypeId × Value → H) :
    ReturnsInHanded {} Tryz.checked os 4 .any (Rows.watchViewsSpec.pre6 enc Tryz.prog Tryz.f4 Rows.watchViewsRow.domain false) (Rows.watchViewsSpec.post enc Tryz.prog Tryz.f4 false true false false) := by
  refine returnsInHanded_of_change (C := Tryz.checked) knob_own started (by kernel_rfl) Tryz.func4
    (ChangeSpec.witness6 (enc := enc) (C := Tryz.checked) false ⟨#[], #[.agg #[.slice none 0 0, .int .i64 0, .slice none 0 0, .slice none 0 0], .agg #[.int .i64 0, .int .i64 0, .int .i64 0, .int .i64 0, .int .i64 0, .int .i64 0, .int .i64 0, .int .i64 0, .int .i64 0, .int .i64 0, .bool false], .agg #[.int .i64 (0), .int .i64 (0), .int .i64 (0), .int .i64 (0)], .agg #[.int .i64 (0), .int .i64 (0), .int .i64 (0), .int .i64 (0)], .agg #[.int .i64 (0), .int .i64 (0)]], []⟩ 8 (by kernel_rfl) (by kernel_rfl) (by kernel_rfl) (by kernel_rfl)) ?_
  intro W base args ds gs before hval0 hW _ _
  have hval : ∀ (j : Nat) t v, Tryz.f4.params[j]? = some t → args[j]? = some v → Value.okWide Tryz.prog W .any base t v := hval0
  have hW' := hW
  obtain ⟨p, q, hA0, hV, rfl, _, _⟩ := hW
  have hA : DataW.TrodAll enc Tryz.prog W 0 (fun _ => true) true Tryz.f4.params.toList args.toList ds p := hA0
  rw [Tryz.params4] at hA hval
  obtain ⟨v0, vs0, d0, ds0, p0, q0, hargs, rfl, rfl, h0, r0⟩ := trodAll_cons hA
  obtain ⟨v1, vs1, d1, ds1, p1, q1, rfl, rfl, rfl, h1, r1⟩ := trodAll_cons r0
  obtain ⟨v2, vs2, d2, ds2, p2, q2, rfl, rfl, rfl, h2, r2⟩ := trodAll_cons r1
  obtain ⟨v3, vs3, d3, ds3, p3, q3, rfl, rfl, rfl, h3, r3⟩ := trodAll_cons r2
  obtain ⟨v4, vs4, d4, ds4, p4, q4, rfl, rfl, rfl, h4, r4⟩ := trodAll_cons r3
  obtain ⟨rfl, rfl, rfl⟩ := trodAll_nil r4
  obtain rfl : args = #[v0, v1, v2, v3, v4] := by cases args; simp_all
  obtain ⟨rfl, rfl⟩ := trodVars_none hV
  have hlt0 : ∀ x ∈ p0, x.block < W.heap.size := fun x hx => hW'.lt x (by simp [hx])
  have hv0 := hval 0 28 v0 rfl rfl
  have shut0 := shut_stay (by kernel_rfl) (by kernel_rfl) h0 hlt0
  obtain ⟨xa0, xn0, xc0, xsa0, xsn0, xsc0, xca0, xcn0, xcc0, s0, rfl, hL0⟩ := open_sky hv0 h0
  have hlt1 : ∀ x ∈ p1, x.block < W.heap.size := fun x hx => hW'.lt x (by simp [hx])
  have hv1 := hval 1 32 v1 rfl rfl
  have shut1 := shut_stay (by kernel_rfl) (by kernel_rfl) h1 hlt1
  obtain ⟨o1, rfl⟩ := open_offer hv1 h1
  have hlt2 : ∀ x ∈ p2, x.block < W.heap.size := fun x hx => hW'.lt x (by simp [hx])
  have hv2 := hval 2 46 v2 rfl rfl
  have shut2 := shut_stay (by kernel_rfl) (by kernel_rfl) h2 hlt2
  obtain ⟨x2, y2, z2, u2, rfl, _, _, wx2, wy2, wz2, wu2⟩ := open_area hv2 h2
  have hlt3 : ∀ x ∈ p3, x.block < W.heap.size := fun x hx => hW'.lt x (by simp [hx])
  have hv3 := hval 3 46 v3 rfl rfl
  have shut3 := shut_stay (by kernel_rfl) (by kernel_rfl) h3 hlt3
  obtain ⟨x3, y3, z3, u3, rfl, _, _, wx3, wy3, wz3, wu3⟩ := open_area hv3 h3
  have hlt4 : ∀ x ∈ p4, x.block < W.heap.size := fun x hx => hW'.lt x (by simp [hx])
  have hv4 := hval 4 48 v4 rfl rfl
  have shut4 := shut_stay (by kernel_rfl) (by kernel_rfl) h4 hlt4
  obtain ⟨i4, x4, rfl⟩ := open_moon hv4 h4
  clear hA0 hval0
  simp only [List.append_nil] at hW'
  refine (wviews_law hL0 o1 x2 y2 z2 u2 x3 y3 z3 u3 i4 x4).mono fun px => ?_
  exact ⟨_, rfl, post_of_below (pa := (p0 ++ (p1 ++ (p2 ++ (p3 ++ (p4 ++ [])))))) (pv := []) hW' (fun _ _ _ => (trodAll_cons_mk (shut_bool Tryz.underlying4 _) trodAll_mk0)) (fun sp hsp => (trodAll_cons_mk (shut0 _ sp (Up.below ⟨px, rfl⟩) (fun x hx => hsp x (by simp [hx]))) (trodAll_cons_mk (shut1 _ sp (Up.below ⟨px, rfl⟩) (fun x hx => hsp x (by simp [hx]))) (trodAll_cons_mk (shut2 _ sp (Up.below ⟨px, rfl⟩) (fun x hx => hsp x (by simp [hx]))) (trodAll_cons_mk (shut3 _ sp (Up.below ⟨px, rfl⟩) (fun x hx => hsp x (by simp [hx]))) (trodAll_cons_mk (shut4 _ sp (Up.below ⟨px, rfl⟩) (fun x hx => hsp x (by simp [hx]))) trodAll_mk0)))))) (fun _ _ => rfl) (by simp)
    (Up.below ⟨px, rfl⟩) (ok_one (by kernel_rfl) rfl (okWide_bool_mk Tryz.underlying4 _))⟩

theorem wviews_holds : Rows.WatchViewsSaid :=
  OpenClaim.holds_of_wide 4 Tryz.f4 rfl rfl rfl rfl rfl rfl rfl ⟨rfl, rfl, rfl, rfl, rfl⟩ rfl rfl rfl rfl rfl (by kernel_rfl) Tryz.func4 (by kernel_rfl)
    (of_decide_eq_true (by kernel_rfl)) (by unfold Func.isWrapper; rw [if_neg (by decide +kernel)]; exact ⟨rfl, rfl⟩)
    (fun os started H enc _ => wviews_lifted os started H enc)
#print axioms wviews_holds
end Go.Proofs.YtnaiaodnnmhdkaaGreat
