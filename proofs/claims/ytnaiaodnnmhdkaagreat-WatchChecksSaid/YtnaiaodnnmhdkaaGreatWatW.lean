/- The law of WatchChecks, walked: which watches are valid, or which error, is what the reference says; no set is changed. Conditions: what lies in memory. -/
import Derived.Test.YtnaiaodnnmhdkaaGreatSkyR
import Derived.Test.YtnaiaodnnmhdkaaGreatW6b
import Derived.ChangeSame
import Derived.OpenShut
namespace Go.Proofs.YtnaiaodnnmhdkaaGreat
set_option linter.unusedVariables false
set_option linter.unusedSimpArgs false
open Go.RowKit Go.ChangeShapes Go.WideShapes Go.ChangeAt Go.Joins Go.Shelf

set_option maxRecDepth 100000 in
set_option maxHeartbeats 40000000 in
theorem wchecks_law {K : Nat → Prop} {w : World} {a sa ca : Option Addr} {n c sn sc cn cc : Nat} {s : SkyD} (hL : SkyL K w a n c sa sn sc ca cn cc s) (d : DriftD) (t : Int) {KB : Nat → Prop} {ba : Option Addr} {bn bc : Nat} {set : List BoxD} (hB : Boxes KB w (.slice ba bn bc) set) {KO : Nat → Prop} {oa : Option Addr} {on oc : Nat} {offers : List OffD} (hO : Lst TOff KO w (.slice oa on oc) offers) : Gives Tryz.prog 6 #[.agg #[.slice a n c, .int .i64 s.home, .slice sa sn sc, .slice ca cn cc], .agg #[.int .i64 (d.l.1), .int .i64 (d.l.2), .int .i64 (d.h.1), .int .i64 (d.h.2), .int .i64 (d.g)], .int .i64 t, .slice ba bn bc, .slice oa on oc] w (.bool true) := by
  have hbn := (Boxes.at hB).1
  have hbm := (Boxes.at hB).2.1
  have hom := (Offs.at hO).2.1
  have HG := hide (fun W (hu : Up w W) => wbig_any (home := s.home) (hL.up hu) ba bn bc oa on oc hbm hom)
  have HA := hide (fun W => awake6_any W)
  have HOW := hide (fun (h : bn ≤ 101) W (hu : Up w W) => ownboxes_any (hB.keeps (hu.keeps KB)) (by omega))
  have H1 := hide (fun (K' : Nat → Prop) W (hu : Up w W) (a' : Option Addr) (n' c' : Nat) (hb : Boxes K' W (.slice a' n' c') set) => wwatch_any (hL.up hu) d t hb (hO.up hu))
  have H2 := hide (fun W (hu : Up w W) => vwatch_any (hL.up hu) d t (hB.keeps (hu.keeps KB)) (hO.up hu))
  have H3 := hide (fun (K' : Nat → Prop) W (hu : Up w W) (a' : Option Addr) (n' c' : Nat) (hb : Boxes K' W (.slice a' n' c') set) => sameboxes_any hb (hB.keeps (hu.keeps KB)))
  generalize watchE s d t set offers = E at *
  generalize s.home = home at *
  clear hL hB hO hbn hbm hom
  (unfold Gives; go_enter Tryz.func6, Tryz.ntmps6)
  go_wp2_with fail
  go_at_call 33
  refine forgetK (fun wr => Up w wr ∧ Box wr w.heap.size #[.slice a n c, .int .i64 home, .slice sa sn sc, .slice ca cn cc] 28 ∧ Box wr (w.heap.size + 1) #[.int .i64 (d.l.1), .int .i64 (d.l.2), .int .i64 (d.h.1), .int .i64 (d.h.2), .int .i64 (d.g)] 68) ⟨(by repeat (first | with_reducible exact Up.refl _ | with_reducible apply Up.plus | apply Up.ext | apply Up.alloc | apply Up.drew | (refine Up.setCell ?_ (by simp; try omega) _))), (by repeat (first | exact Box.mk rfl | (refine Box.mk ?_; simp; done) | apply Box.ext | apply Box.drew | apply Box.alloc | apply Box.two1 | (refine Box.other ?_ (by omega) _ _))), (by repeat (first | exact Box.mk rfl | (refine Box.mk ?_; simp; done) | apply Box.ext | apply Box.drew | apply Box.alloc | apply Box.two1 | (refine Box.other ?_ (by omega) _ _)))⟩ ?_
  rintro V0 ⟨hu, b0, b1⟩
  have HB0 := hide (And.intro hu (And.intro b0 b1))
  clear hu b0 b1
  have s0 := (HB0.out.2.1).cell 0 rfl
  have s1 := (HB0.out.2.1).cell 1 rfl
  have s2 := (HB0.out.2.1).cell 2 rfl
  have s3 := (HB0.out.2.1).cell 3 rfl
  have ls := (HB0.out.2.1).lt
  have dd0 := (HB0.out.2.2).cell 0 rfl
  have dd1 := (HB0.out.2.2).cell 1 rfl
  have dd2 := (HB0.out.2.2).cell 2 rfl
  have dd3 := (HB0.out.2.2).cell 3 rfl
  have dd4 := (HB0.out.2.2).cell 4 rfl
  have ldd := (HB0.out.2.2).lt
  refine (HG.out _ (by repeat (first | with_reducible exact HB0.out.1 | with_reducible exact Up.refl _ | with_reducible apply Up.ext | with_reducible apply Up.alloc | with_reducible apply Up.drew | (with_reducible refine Up.setCell ?_ (by simp only; omega) _)))).mono ?_
  rintro _ _ ⟨b, q, rfl, rfl, hb1⟩
  cases b
  rotate_left
  · go_wp2_with (go_at_call 13; (with_reducible refine (HA.out _).mono ?_); intro _)
    go_ret
    exact ⟨rfl, (by repeat (first | with_reducible exact HB0.out.1 | with_reducible exact Up.refl _ | with_reducible apply Up.ext | with_reducible apply Up.alloc | with_reducible apply Up.drew | (with_reducible refine Up.setCell ?_ (by simp only; omega) _)))⟩
  have HOW2 := hide (HOW.out (hb1.out rfl))
  go_wp2_with fail
  go_at_call 34
  refine (HOW2.out _ (by repeat (first | with_reducible exact HB0.out.1 | with_reducible exact Up.refl _ | with_reducible apply Up.ext | with_reducible apply Up.alloc | with_reducible apply Up.drew | (with_reducible refine Up.setCell ?_ (by simp only; omega) _)))).mono ?_
  rintro _ _ ⟨a1, n1, c1, q1, rfl, hbx, rfl⟩
  have HBX := hide hbx
  clear hbx HOW HOW2 hb1
  go_wp2_with fail
  refine forgetW (fun wr => Up w wr ∧ Box wr w.heap.size #[.slice a n c, .int .i64 home, .slice sa sn sc, .slice ca cn cc] 28 ∧ Box wr (w.heap.size + 1) #[.int .i64 (d.l.1), .int .i64 (d.l.2), .int .i64 (d.h.1), .int .i64 (d.h.2), .int .i64 (d.g)] 68 ∧ Boxes (fun b => (ext V0 q).heap.size ≤ b) wr (.slice a1 n1 c1) set) ⟨(by repeat (first | with_reducible exact HB0.out.1 | with_reducible exact Up.refl _ | with_reducible apply Up.ext | with_reducible apply Up.alloc | with_reducible apply Up.drew | (with_reducible refine Up.setCell ?_ (by simp only; omega) _))), (by repeat (first | with_reducible exact HB0.out.2.1 | with_reducible apply Box.ext | with_reducible apply Box.alloc | with_reducible apply Box.drew | (with_reducible refine Box.other ?_ (by omega) _ _))), (by repeat (first | with_reducible exact HB0.out.2.2 | with_reducible apply Box.ext | with_reducible apply Box.alloc | with_reducible apply Box.drew | (with_reducible refine Box.other ?_ (by omega) _ _))), (by first | exact HBX.out | (rw [← ext_ext]; exact HBX.out))⟩ ?_
  intro V5 h5
  have HK := hide h5
  clear h5 HBX HB0 s0 s1 s2 s3 ls dd0 dd1 dd2 dd3 dd4 ldd
  have s0 := HK.out.2.1.cell 0 rfl
  have s1 := HK.out.2.1.cell 1 rfl
  have s2 := HK.out.2.1.cell 2 rfl
  have s3 := HK.out.2.1.cell 3 rfl
  have ls := HK.out.2.1.lt
  have dd0 := HK.out.2.2.1.cell 0 rfl
  have dd1 := HK.out.2.2.1.cell 1 rfl
  have dd2 := HK.out.2.2.1.cell 2 rfl
  have dd3 := HK.out.2.2.1.cell 3 rfl
  have dd4 := HK.out.2.2.1.cell 4 rfl
  have ldd := HK.out.2.2.1.lt
  ((first | with_reducible refine wp_region_ext2 (by kernel_rfl) (by kernel_rfl) ?_ | refine wp_region_ext (by kernel_rfl) (by kernel_rfl) ?_); (repeat (go_big_quiet_step ((first | (go_at_call 35; with_reducible exact Gives.inRegion (H1.out _ _ (by repeat (first | with_reducible exact HK.out.1 | with_reducible exact Up.refl _ | with_reducible apply Up.ext | with_reducible apply Up.alloc | with_reducible apply Up.drew | (with_reducible refine Up.setCell ?_ (by simp only; omega) _))) _ _ _ (HK.out.2.2.2.keeps ((Up.ext (Up.refl _) _).keeps _)))) | (go_at_call 36; with_reducible exact Gives.inRegion (H2.out _ (by repeat (first | with_reducible exact HK.out.1 | with_reducible exact Up.refl _ | with_reducible apply Up.ext | with_reducible apply Up.alloc | with_reducible apply Up.drew | (with_reducible refine Up.setCell ?_ (by simp only; omega) _))))) | (go_at_call 37; with_reducible exact Gives.inRegion (H3.out _ _ (by repeat (first | with_reducible exact HK.out.1 | with_reducible exact Up.refl _ | with_reducible apply Up.ext | with_reducible apply Up.alloc | with_reducible apply Up.drew | (with_reducible refine Up.setCell ?_ (by simp only; omega) _))) _ _ _ (HK.out.2.2.2.keeps ((Up.ext (Up.refl _) _).keeps _)))) | (go_at_call 13; with_reducible exact Gives.inRegion (HA.out _)))))); refine wpQuiet_nil ?_; intro _ hw'; obtain ⟨_, hw''⟩ := hw'; subst hw'')
  go_wp2
  go_ret
  exact ⟨by first | rfl | exact ret_bool (by simp), (by repeat (first | with_reducible exact HK.out.1 | with_reducible exact Up.refl _ | with_reducible apply Up.ext | with_reducible apply Up.alloc | with_reducible apply Up.drew | (with_reducible refine Up.setCell ?_ (by simp only; omega) _)))⟩
end Go.Proofs.YtnaiaodnnmhdkaaGreat
