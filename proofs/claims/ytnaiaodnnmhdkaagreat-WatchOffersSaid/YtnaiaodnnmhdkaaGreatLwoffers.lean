/- WatchOffers returns true for every input: which offers are valid, what is in their field, what is read and what agrees is what the reference says. No conditions. -/
import Derived.Test.YtnaiaodnnmhdkaaGreatVG
import Derived.Test.YtnaiaodnnmhdkaaGreatWatchN
import Derived.Test.YtnaiaodnnmhdkaaGreatWatchR
import Derived.JoinedOf
import Derived.JoinedAt
import Derived.ChangeSame
import Derived.OpenShut
namespace Go.Proofs.YtnaiaodnnmhdkaaGreat
set_option linter.unusedVariables false
set_option linter.unusedSimpArgs false
open Go.RowKit Go.ChangeShapes Go.WideShapes Go.ChangeAt Go.Joins Go.Shelf

set_option maxRecDepth 100000 in
set_option maxHeartbeats 40000000 in
theorem woffers_law {K : Nat → Prop} {w : World} {a sa ca : Option Addr} {n c sn sc cn cc : Nat} {s : SkyD} (hL : SkyL K w a n c sa sn sc ca cn cc s) (o : OffD) (i v x y : Int) : Gives Tryz.prog 3 #[.agg #[.slice a n c, .int .i64 s.home, .slice sa sn sc, .slice ca cn cc], .agg (offA o), .agg #[.int .i64 (i), .int .i64 (v)], .agg #[.int .i64 (x), .int .i64 (y)]] w (.bool true) := by
  have HG := hide (fun W (hu : Up w W) => bigsky_any (home := s.home) (hL.up hu))
  have HA := hide (fun W => awake6_any W)
  obtain ⟨l1, hl1⟩ : ∃ l, (readsV s o (x, y)).1.1 = l := ⟨_, rfl⟩
  obtain ⟨l2, hl2⟩ : ∃ l, (readsV s o (x, y)).1.2 = l := ⟨_, rfl⟩
  obtain ⟨is, his⟩ : ∃ l, (readsV s o (x, y)).2 = l := ⟨_, rfl⟩
  have HR1 := hide (fun W (hu : Up w W) => wReads_any (hL.up hu) o (x, y))
  have HR2 := hide (fun W (hu : Up w W) => vReads_any (hL.up hu) o (x, y))
  rw [hl1, hl2, his] at HR1 HR2
  have HC1 := hide (fun W (hu : Up w W) => wcheck_any (hL.up hu).b (hL.up hu).h (hL.up hu).st (hL.up hu).ca o)
  have HC2 := hide (fun W (hu : Up w W) => vCheck_any (hL.up hu) o)
  have HF1 := hide (fun W (hu : Up w W) => wField_any (hL.up hu) o (x, y))
  have HF2 := hide (fun W (hu : Up w W) => vField_any (hL.up hu) o (x, y))
  have HG1 := hide (fun W (hu : Up w W) => wAgrees_any (hL.up hu) o i v (x, y))
  have HG2 := hide (fun W (hu : Up w W) => vAgrees_any (hL.up hu) o i v (x, y))
  clear hl1 hl2 his
  generalize offE s o = E at *
  generalize fieldV s o (x, y) = F at *
  generalize agreesV s o i v (x, y) = A at *
  generalize s.home = home at *
  clear hL
  dsimp only at *
  (unfold Gives; go_enter Tryz.func3, Tryz.ntmps3)
  go_wp2_with fail
  go_at_call 12
  refine forgetK (fun V => Up w V ∧ Box V w.heap.size #[.slice a n c, .int .i64 home, .slice sa sn sc, .slice ca cn cc] 28 ∧ Box V (w.heap.size + 1) (offA o) 32 ∧ Box V (w.heap.size + 1 + 1) #[.int .i64 (i), .int .i64 (v)] 34 ∧ Box V (w.heap.size + 1 + 1 + 1) #[.int .i64 (x), .int .i64 (y)] 30) ⟨(by repeat (first | with_reducible exact Up.refl _ | with_reducible apply Up.plus | apply Up.ext | apply Up.alloc | apply Up.drew | (refine Up.setCell ?_ (by simp; try omega) _))), (by repeat (first | exact Box.mk rfl | (refine Box.mk ?_; simp; done) | apply Box.ext | apply Box.drew | apply Box.alloc | apply Box.two1 | (refine Box.other ?_ (by omega) _ _))), (by repeat (first | exact Box.mk rfl | (refine Box.mk ?_; simp; done) | apply Box.ext | apply Box.drew | apply Box.alloc | apply Box.two1 | (refine Box.other ?_ (by omega) _ _))), (by repeat (first | exact Box.mk rfl | (refine Box.mk ?_; simp; done) | apply Box.ext | apply Box.drew | apply Box.alloc | apply Box.two1 | (refine Box.other ?_ (by omega) _ _))), (by repeat (first | exact Box.mk rfl | (refine Box.mk ?_; simp; done) | apply Box.ext | apply Box.drew | apply Box.alloc | apply Box.two1 | (refine Box.other ?_ (by omega) _ _)))⟩ ?_
  rintro V ⟨hu, b0, b1, b2, b3⟩
  have s0 := b0.cell 0 rfl
  have s1 := b0.cell 1 rfl
  have s2 := b0.cell 2 rfl
  have s3 := b0.cell 3 rfl
  have ls := b0.lt
  have f0 := b1.cell 0 rfl
  have f1 := b1.cell 1 rfl
  have f2 := b1.cell 2 rfl
  have f3 := b1.cell 3 rfl
  have f4 := b1.cell 4 rfl
  have f5 := b1.cell 5 rfl
  have f6 := b1.cell 6 rfl
  have f7 := b1.cell 7 rfl
  have f8 := b1.cell 8 rfl
  have f9 := b1.cell 9 rfl
  have f10 := b1.cell 10 rfl
  have lf := b1.lt
  have r0 := b2.cell 0 rfl
  have r1 := b2.cell 1 rfl
  have lr := b2.lt
  have g0 := b3.cell 0 rfl
  have g1 := b3.cell 1 rfl
  have lg := b3.lt
  have HB := hide (hu)
  clear hu b0 b1 b2 b3
  refine (HG.out _ HB.out).mono ?_
  rintro _ _ ⟨b, q, rfl, rfl⟩
  cases b
  rotate_left
  · go_wp2_with (go_at_call 13; (with_reducible refine (HA.out _).mono ?_); intro _)
    go_ret
    exact ⟨rfl, (by repeat (first | with_reducible exact HB.out | with_reducible exact Up.refl _ | apply Up.ext | apply Up.alloc | apply Up.drew | (refine Up.setCell ?_ (by simp [World.setCell]; try omega) _)))⟩
  go_wp2_with fail
  go_at_call 14
  refine (HR1.out _ (by repeat (first | with_reducible exact HB.out | with_reducible apply Up.ext | with_reducible apply Up.alloc | with_reducible apply Up.drew))).mono ?_
  intro q1
  go_wp2_with fail
  go_at_call 15
  refine (HR2.out _ (by repeat (first | with_reducible exact HB.out | with_reducible apply Up.ext | with_reducible apply Up.alloc | with_reducible apply Up.drew))).mono ?_
  intro q2
  go_wp2_with fail
  ((first | with_reducible refine wp_region_ext2 (by kernel_rfl) (by kernel_rfl) ?_ | refine wp_region_ext (by kernel_rfl) (by kernel_rfl) ?_); (repeat (go_big_quiet_step ((first | (go_at_call 16; with_reducible exact Gives.inRegion (HC1.out _ (by repeat (first | with_reducible exact HB.out | with_reducible apply Up.ext | with_reducible apply Up.alloc | with_reducible apply Up.drew)))) | (go_at_call 17; with_reducible exact Gives.inRegion (HC2.out _ (by repeat (first | with_reducible exact HB.out | with_reducible apply Up.ext | with_reducible apply Up.alloc | with_reducible apply Up.drew)))) | (go_at_call 18; with_reducible exact Gives.inRegion (HF1.out _ (by repeat (first | with_reducible exact HB.out | with_reducible apply Up.ext | with_reducible apply Up.alloc | with_reducible apply Up.drew)))) | (go_at_call 19; with_reducible exact Gives.inRegion (HF2.out _ (by repeat (first | with_reducible exact HB.out | with_reducible apply Up.ext | with_reducible apply Up.alloc | with_reducible apply Up.drew)))) | (go_at_call 20; with_reducible exact Gives.inRegion (HG1.out _ (by repeat (first | with_reducible exact HB.out | with_reducible apply Up.ext | with_reducible apply Up.alloc | with_reducible apply Up.drew)))) | (go_at_call 21; with_reducible exact Gives.inRegion (HG2.out _ (by repeat (first | with_reducible exact HB.out | with_reducible apply Up.ext | with_reducible apply Up.alloc | with_reducible apply Up.drew)))) | (go_at_call 13; with_reducible exact Gives.inRegion (HA.out _)))))); refine wpQuiet_nil ?_; intro _ hw'; obtain ⟨_, hw''⟩ := hw'; subst hw'')
  go_wp2
  go_ret
  exact ⟨by first | rfl | exact ret_bool (by simp), (by repeat (first | with_reducible exact HB.out | with_reducible exact Up.refl _ | apply Up.ext | apply Up.alloc | apply Up.drew | (refine Up.setCell ?_ (by simp [World.setCell]; try omega) _)))⟩
set_option maxRecDepth 100000 in
theorem woffers_lifted (os : Os) (started : os.Started) (H : Type) (enc : TypeId × Value → H) :
    ReturnsInHanded {} Tryz.checked os 3 .any (Rows.watchOffersSpec.pre6 enc Tryz.prog Tryz.f3 Rows.watchOffersRow.domain false) (Rows.watchOffersSpec.post enc Tryz.prog Tryz.f3 false true false false) := by
  refine returnsInHanded_of_change (C := Tryz.checked) knob_own started (by kernel_rfl) Tryz.func3
    (ChangeSpec.witness6 (enc := enc) (C := Tryz.checked) false ⟨#[], #[.agg #[.slice none 0 0, .int .i64 0, .slice none 0 0, .slice none 0 0], .agg #[.int .i64 0, .int .i64 0, .int .i64 0, .int .i64 0, .int .i64 0, .int .i64 0, .int .i64 0, .int .i64 0, .int .i64 0, .int .i64 0, .bool false], .agg #[.int .i64 (0), .int .i64 (0)], .agg #[.int .i64 0, .int .i64 0]], []⟩ 8 (by kernel_rfl) (by kernel_rfl) (by kernel_rfl) (by kernel_rfl)) ?_
  intro W base args ds gs before hval0 hW _ _
  have hval : ∀ (j : Nat) t v, Tryz.f3.params[j]? = some t → args[j]? = some v → Value.okWide Tryz.prog W .any base t v := hval0
  have hW' := hW
  obtain ⟨p, q, hA0, hV, rfl, _, _⟩ := hW
  have hA : DataW.TrodAll enc Tryz.prog W 0 (fun _ => true) true Tryz.f3.params.toList args.toList ds p := hA0
  rw [Tryz.params3] at hA hval
  obtain ⟨v0, vs0, d0, ds0, p0, q0, hargs, rfl, rfl, h0, r0⟩ := trodAll_cons hA
  obtain ⟨v1, vs1, d1, ds1, p1, q1, rfl, rfl, rfl, h1, r1⟩ := trodAll_cons r0
  obtain ⟨v2, vs2, d2, ds2, p2, q2, rfl, rfl, rfl, h2, r2⟩ := trodAll_cons r1
  obtain ⟨v3, vs3, d3, ds3, p3, q3, rfl, rfl, rfl, h3, r3⟩ := trodAll_cons r2
  obtain ⟨rfl, rfl, rfl⟩ := trodAll_nil r3
  obtain rfl : args = #[v0, v1, v2, v3] := by cases args; simp_all
  obtain ⟨rfl, rfl⟩ := trodVars_none hV
  have hlt0 : ∀ x ∈ p0, x.block < W.heap.size := fun x hx => hW'.lt x (by simp [hx])
  have hv0 := hval 0 28 v0 rfl rfl
  have shut0 := shut_stay (by kernel_rfl) (by kernel_rfl) h0 hlt0
  obtain ⟨xa0, xn0, xc0, xsa0, xsn0, xsc0, xca0, xcn0, xcc0, s0, rfl, hL0⟩ := open_sky hv0 h0
  have hlt1 : ∀ x ∈ p1, x.block < W.heap.size := fun x hx => hW'.lt x (by simp [hx])
  have hv1 := hval 1 32 v1 rfl rfl
  have shut1 := shut_stay (by kernel_rfl) (by kernel_rfl) h1 hlt1
  obtain ⟨o1, rfl⟩ := open_offer hv1 h1
  have hlt2 : ∀ x ∈ p2, x.block < W.heap.size := fun x hx => hW'.lt x (by simp [hx])
  have hv2 := hval 2 34 v2 rfl rfl
  have shut2 := shut_stay (by kernel_rfl) (by kernel_rfl) h2 hlt2
  obtain ⟨i2, x2, rfl⟩ := open_reading hv2 h2
  have hlt3 : ∀ x ∈ p3, x.block < W.heap.size := fun x hx => hW'.lt x (by simp [hx])
  have hv3 := hval 3 30 v3 rfl rfl
  have shut3 := shut_stay (by kernel_rfl) (by kernel_rfl) h3 hlt3
  obtain ⟨x3, y3, rfl, _, _, wx3, wy3⟩ := open_vec hv3 h3
  clear hA0 hval0
  simp only [List.append_nil] at hW'
  refine (woffers_law hL0 o1 i2 x2 x3 y3).mono fun px => ?_
  exact ⟨_, rfl, post_of_below (pa := (p0 ++ (p1 ++ (p2 ++ (p3 ++ []))))) (pv := []) hW' (fun _ _ _ => (trodAll_cons_mk (shut_bool Tryz.underlying4 _) trodAll_mk0)) (fun sp hsp => (trodAll_cons_mk (shut0 _ sp (Up.below ⟨px, rfl⟩) (fun x hx => hsp x (by simp [hx]))) (trodAll_cons_mk (shut1 _ sp (Up.below ⟨px, rfl⟩) (fun x hx => hsp x (by simp [hx]))) (trodAll_cons_mk (shut2 _ sp (Up.below ⟨px, rfl⟩) (fun x hx => hsp x (by simp [hx]))) (trodAll_cons_mk (shut3 _ sp (Up.below ⟨px, rfl⟩) (fun x hx => hsp x (by simp [hx]))) trodAll_mk0))))) (fun _ _ => rfl) (by simp)
    (Up.below ⟨px, rfl⟩) (ok_one (by kernel_rfl) rfl (okWide_bool_mk Tryz.underlying4 _))⟩

theorem woffers_holds : Rows.WatchOffersSaid :=
  OpenClaim.holds_of_wide 3 Tryz.f3 rfl rfl rfl rfl rfl rfl rfl ⟨rfl, rfl, rfl, rfl, rfl⟩ rfl rfl rfl rfl rfl (by kernel_rfl) Tryz.func3 (by kernel_rfl)
    (of_decide_eq_true (by kernel_rfl)) (by unfold Func.isWrapper; rw [if_neg (by decide +kernel)]; exact ⟨rfl, rfl⟩)
    (fun os started H enc _ => woffers_lifted os started H enc)
#print axioms woffers_holds
end Go.Proofs.YtnaiaodnnmhdkaaGreat
