/- Several texts in one. -/
import Derived.Test.YtnaiaodnnmhdkaaGreatWatchK
import Derived.Test.YtnaiaodnnmhdkaaGreatVC
import Derived.Test.YtnaiaodnnmhdkaaGreatVE
import Derived.Test.YtnaiaodnnmhdkaaGreatModk
import Derived.Test.YtnaiaodnnmhdkaaGreatTail
import Derived.Test.YtnaiaodnnmhdkaaGreatWatchF
/- Reference bolideref06: which watches are valid. Conditions: what lies in memory. -/
namespace Go.Proofs.YtnaiaodnnmhdkaaGreat
set_option linter.unusedVariables false
set_option linter.unusedSimpArgs false
open Go.RowKit Go.Shelf

theorem list_call {V : World} {L : List BoxD} {E : Int} {f : FuncId} {args : Array Value} {B0 : Nat} (hc : ∀ W, Up V W → Calls Tryz.prog f args W (GivesList W L (.int .i64 E))) :
    ∀ W, (∃ p : Ext, W = ext V p) → Calls Tryz.prog f args W fun e w'' => ∃ v, e = .returned v ∧ (∃ (a : Option Addr) (n c : Nat), v = .tuple #[.slice a n c, .int .i64 E]) ∧ (∃ p : Ext, w'' = ext V p) ∧ Stays B0 W w'' := fun W hW => by
  refine (hc W hW).mono ?_
  rintro _ _ ⟨a, n, c, p, rfl, hb, rfl⟩
  obtain ⟨q, rfl⟩ := hW
  exact ⟨_, rfl, ⟨a, n, c, rfl⟩, ⟨q.plus p, by rw [ext_ext]⟩, Stays.ext _ _ _⟩
set_option maxRecDepth 100000 in
set_option maxHeartbeats 20000000 in
theorem vwatch_any {K : Nat → Prop} {w : World} {a sa ca : Option Addr} {n c sn sc cn cc : Nat} {s : SkyD} (hL : SkyL K w a n c sa sn sc ca cn cc s) (d : DriftD) (t : Int) {KB : Nat → Prop} {ba : Option Addr} {bn bc : Nat} {set : List BoxD} (hB : Boxes KB w (.slice ba bn bc) set) {KO : Nat → Prop} {oa : Option Addr} {on oc : Nat} {offers : List OffD} (hO : Lst TOff KO w (.slice oa on oc) offers) : Gives Tryz.prog 36 #[.agg #[.slice a n c, .int .i64 s.home, .slice sa sn sc, .slice ca cn cc], .agg #[.int .i64 (d.l.1), .int .i64 (d.l.2), .int .i64 (d.h.1), .int .i64 (d.h.2), .int .i64 (d.g)], .int .i64 t, .slice ba bn bc, .slice oa on oc] w (.int .i64 (watchE s d t set offers)) := by
  have HC := hide (fun W (hu : Up w W) => scheck_any (hL.up hu).b (hL.up hu).h (hL.up hu).st (hL.up hu).ca)
  have HP := hide (fun (m : Int) (hm : -9223372036854775808 ≤ m ∧ m ≤ 9223372036854775807) W (hu : Up w W) => qpropagate_any (hL.up hu).b (hL.up hu).h d (hB.keeps (hu.keeps KB)) t m hm)
  have HT := hide (fun (m : Int) (h : (propagateV s.bodies s.home d t m set).2 = 0) => prop_tick h)
  have HOF := hide (fun (hs : skyE s = 0) (o : OffD) W (hu : Up w W) => (show Gives Tryz.prog 67 #[.agg #[.slice a n c, .int .i64 s.home, .slice sa sn sc, .slice ca cn cc], .agg (offA o)] W (.int .i64 (offE s o)) by have := voffer_any (hL.up hu) o; rw [show offE0 s o = offE s o by unfold offE; rw [if_pos hs]] at this; exact this))
  have HI := hide (fun lo W => vbetween_any lo t (t + 400) W)
  have HO := hide hO
  have hon := (Offs.at hO).1
  have hbn := (Boxes.at hB).1
  have hom := (Offs.at hO).2.1
  unfold watchE
  rw [← hbn, ← hon]
  have HNN := hide hon
  clear hbn hon
  generalize hE : skyE s = E at *
  have e0 : ∀ o, offW s d t set o = (if offE s o = 0 then (if withinB o.tick t (t + 400) = true then (propagateV s.bodies s.home d t (o.tick - t) set).2 else 2) else offE s o) := fun o => rfl
  have hof : ∀ o, offE s o = 0 → 0 ≤ o.tick ∧ o.tick ≤ 1073741824 := fun o h => by have := (offE_zero h).2.2.1; simpa [withinB] using this
  generalize offW s d t set = OW at *
  generalize offE s = OE at *
  obtain ⟨PL, hPL⟩ : ∃ f : Int → List BoxD, f = fun m => (propagateV s.bodies s.home d t m set).1 := ⟨_, rfl⟩
  obtain ⟨PE, hPE⟩ : ∃ f : Int → Int, f = fun m => (propagateV s.bodies s.home d t m set).2 := ⟨_, rfl⟩
  have f1 : ∀ m, (propagateV s.bodies s.home d t m set).1 = PL m := fun m => by rw [hPL]
  have f2 : ∀ m, (propagateV s.bodies s.home d t m set).2 = PE m := fun m => by rw [hPE]
  simp only [f1, f2] at HP HT e0 ⊢
  clear f1 f2 hPL hPE
  have HW := hide (And.intro e0 hof)
  clear e0 hof hB hO
  by_cases hs : E = 0
  rotate_left
  · rw [if_neg hs]
    have heb : (E != 0) = true := by simpa using hs
    generalize s.home = home at *
    clear hL hE HOF hs
    (unfold Gives; go_enter Tryz.func36, Tryz.ntmps36)
    go_wp2_with fail
    go_at_call 66
    refine forgetK (fun wr => Up w wr ∧ Box wr w.heap.size #[.slice a n c, .int .i64 home, .slice sa sn sc, .slice ca cn cc] 28 ∧ Box wr (w.heap.size + 1) #[.int .i64 (d.l.1), .int .i64 (d.l.2), .int .i64 (d.h.1), .int .i64 (d.h.2), .int .i64 (d.g)] 68) ⟨(by repeat (first | with_reducible exact Up.refl _ | with_reducible apply Up.plus | apply Up.ext | apply Up.alloc | apply Up.drew | (refine Up.setCell ?_ (by simp; try omega) _))), (by repeat (first | exact Box.mk rfl | (refine Box.mk ?_; simp; done) | apply Box.ext | apply Box.drew | apply Box.alloc | apply Box.two1 | (refine Box.other ?_ (by omega) _ _))), (by repeat (first | exact Box.mk rfl | (refine Box.mk ?_; simp; done) | apply Box.ext | apply Box.drew | apply Box.alloc | apply Box.two1 | (refine Box.other ?_ (by omega) _ _)))⟩ ?_
    rintro V0 ⟨hu, b0, b1⟩
    have HB0 := hide (And.intro hu (And.intro b0 b1))
    clear hu b0 b1
    have s0 := (HB0.out.2.1).cell 0 rfl
    have s1 := (HB0.out.2.1).cell 1 rfl
    have s2 := (HB0.out.2.1).cell 2 rfl
    have s3 := (HB0.out.2.1).cell 3 rfl
    have ls := (HB0.out.2.1).lt
    have dd0 := (HB0.out.2.2).cell 0 rfl
    have dd1 := (HB0.out.2.2).cell 1 rfl
    have dd2 := (HB0.out.2.2).cell 2 rfl
    have dd3 := (HB0.out.2.2).cell 3 rfl
    have dd4 := (HB0.out.2.2).cell 4 rfl
    have ldd := (HB0.out.2.2).lt
    refine (HC.out _ (by repeat (first | with_reducible exact HB0.out.1 | with_reducible exact Up.refl _ | with_reducible apply Up.ext | with_reducible apply Up.alloc | with_reducible apply Up.drew | (with_reducible refine Up.setCell ?_ (by simp only; omega) _)))).mono ?_
    intro p1
    go_wp2
    go_ret
    exact ⟨rfl, (by repeat (first | with_reducible exact HB0.out.1 | with_reducible exact Up.refl _ | with_reducible apply Up.ext | with_reducible apply Up.alloc | with_reducible apply Up.drew | (with_reducible refine Up.setCell ?_ (by simp only; omega) _)))⟩
  rw [if_pos hs]
  subst hs
  have HOF2 := hide (HOF.out rfl)
  generalize s.home = home at *
  clear hL hE HOF
  by_cases h0 : PE 0 = 0
  rotate_left
  · rw [if_neg h0]
    have heb : (PE 0 != 0) = true := by simpa using h0
    clear h0
    (unfold Gives; go_enter Tryz.func36, Tryz.ntmps36)
    go_wp2_with fail
    go_at_call 66
    refine forgetK (fun wr => Up w wr ∧ Box wr w.heap.size #[.slice a n c, .int .i64 home, .slice sa sn sc, .slice ca cn cc] 28 ∧ Box wr (w.heap.size + 1) #[.int .i64 (d.l.1), .int .i64 (d.l.2), .int .i64 (d.h.1), .int .i64 (d.h.2), .int .i64 (d.g)] 68) ⟨(by repeat (first | with_reducible exact Up.refl _ | with_reducible apply Up.plus | apply Up.ext | apply Up.alloc | apply Up.drew | (refine Up.setCell ?_ (by simp; try omega) _))), (by repeat (first | exact Box.mk rfl | (refine Box.mk ?_; simp; done) | apply Box.ext | apply Box.drew | apply Box.alloc | apply Box.two1 | (refine Box.other ?_ (by omega) _ _))), (by repeat (first | exact Box.mk rfl | (refine Box.mk ?_; simp; done) | apply Box.ext | apply Box.drew | apply Box.alloc | apply Box.two1 | (refine Box.other ?_ (by omega) _ _)))⟩ ?_
    rintro V0 ⟨hu, b0, b1⟩
    have HB0 := hide (And.intro hu (And.intro b0 b1))
    clear hu b0 b1
    have s0 := (HB0.out.2.1).cell 0 rfl
    have s1 := (HB0.out.2.1).cell 1 rfl
    have s2 := (HB0.out.2.1).cell 2 rfl
    have s3 := (HB0.out.2.1).cell 3 rfl
    have ls := (HB0.out.2.1).lt
    have dd0 := (HB0.out.2.2).cell 0 rfl
    have dd1 := (HB0.out.2.2).cell 1 rfl
    have dd2 := (HB0.out.2.2).cell 2 rfl
    have dd3 := (HB0.out.2.2).cell 3 rfl
    have dd4 := (HB0.out.2.2).cell 4 rfl
    have ldd := (HB0.out.2.2).lt
    refine (HC.out _ (by repeat (first | with_reducible exact HB0.out.1 | with_reducible exact Up.refl _ | with_reducible apply Up.ext | with_reducible apply Up.alloc | with_reducible apply Up.drew | (with_reducible refine Up.setCell ?_ (by simp only; omega) _)))).mono ?_
    intro p1
    go_wp2_with fail
    go_at_call 90
    refine (HP.out 0 (by omega) _ (by repeat (first | with_reducible exact HB0.out.1 | with_reducible exact Up.refl _ | with_reducible apply Up.ext | with_reducible apply Up.alloc | with_reducible apply Up.drew | (with_reducible refine Up.setCell ?_ (by simp only; omega) _)))).mono ?_
    rintro _ _ ⟨a0, n0, c0, p2, rfl, hbx, rfl⟩
    clear hbx
    go_wp2
    go_ret
    exact ⟨rfl, (by repeat (first | with_reducible exact HB0.out.1 | with_reducible exact Up.refl _ | with_reducible apply Up.ext | with_reducible apply Up.alloc | with_reducible apply Up.drew | (with_reducible refine Up.setCell ?_ (by simp only; omega) _)))⟩
  rw [if_pos h0]
  have ht := HT.out 0 h0
  have htt : 0 ≤ t ∧ t ≤ 1073741824 := ⟨ht.2.1, ht.2.2.1⟩
  clear ht
  by_cases h1 : 100 < bn
  · rw [if_pos (.inl (by omega))]
    have d1 : decide ((100 : Int) < bn) = true := by simp; omega
    (unfold Gives; go_enter Tryz.func36, Tryz.ntmps36)
    go_wp2_with fail
    go_at_call 66
    refine forgetK (fun wr => Up w wr ∧ Box wr w.heap.size #[.slice a n c, .int .i64 home, .slice sa sn sc, .slice ca cn cc] 28 ∧ Box wr (w.heap.size + 1) #[.int .i64 (d.l.1), .int .i64 (d.l.2), .int .i64 (d.h.1), .int .i64 (d.h.2), .int .i64 (d.g)] 68) ⟨(by repeat (first | with_reducible exact Up.refl _ | with_reducible apply Up.plus | apply Up.ext | apply Up.alloc | apply Up.drew | (refine Up.setCell ?_ (by simp; try omega) _))), (by repeat (first | exact Box.mk rfl | (refine Box.mk ?_; simp; done) | apply Box.ext | apply Box.drew | apply Box.alloc | apply Box.two1 | (refine Box.other ?_ (by omega) _ _))), (by repeat (first | exact Box.mk rfl | (refine Box.mk ?_; simp; done) | apply Box.ext | apply Box.drew | apply Box.alloc | apply Box.two1 | (refine Box.other ?_ (by omega) _ _)))⟩ ?_
    rintro V0 ⟨hu, b0, b1⟩
    have HB0 := hide (And.intro hu (And.intro b0 b1))
    clear hu b0 b1
    have s0 := (HB0.out.2.1).cell 0 rfl
    have s1 := (HB0.out.2.1).cell 1 rfl
    have s2 := (HB0.out.2.1).cell 2 rfl
    have s3 := (HB0.out.2.1).cell 3 rfl
    have ls := (HB0.out.2.1).lt
    have dd0 := (HB0.out.2.2).cell 0 rfl
    have dd1 := (HB0.out.2.2).cell 1 rfl
    have dd2 := (HB0.out.2.2).cell 2 rfl
    have dd3 := (HB0.out.2.2).cell 3 rfl
    have dd4 := (HB0.out.2.2).cell 4 rfl
    have ldd := (HB0.out.2.2).lt
    refine (HC.out _ (by repeat (first | with_reducible exact HB0.out.1 | with_reducible exact Up.refl _ | with_reducible apply Up.ext | with_reducible apply Up.alloc | with_reducible apply Up.drew | (with_reducible refine Up.setCell ?_ (by simp only; omega) _)))).mono ?_
    intro p1
    go_wp2_with fail
    go_at_call 90
    refine (HP.out 0 (by omega) _ (by repeat (first | with_reducible exact HB0.out.1 | with_reducible exact Up.refl _ | with_reducible apply Up.ext | with_reducible apply Up.alloc | with_reducible apply Up.drew | (with_reducible refine Up.setCell ?_ (by simp only; omega) _)))).mono ?_
    rintro _ _ ⟨a0, n0, c0, p2, rfl, hbx, rfl⟩
    clear hbx
    rw [h0]
    go_wp2
    go_ret
    exact ⟨rfl, (by repeat (first | with_reducible exact HB0.out.1 | with_reducible exact Up.refl _ | with_reducible apply Up.ext | with_reducible apply Up.alloc | with_reducible apply Up.drew | (with_reducible refine Up.setCell ?_ (by simp only; omega) _)))⟩
  have d1 : decide ((100 : Int) < bn) = false := by simp; omega
  by_cases h2 : 10 < on
  · rw [if_pos (.inr (by omega))]
    have d2 : decide ((10 : Int) < on) = true := by simp; omega
    (unfold Gives; go_enter Tryz.func36, Tryz.ntmps36)
    go_wp2_with fail
    go_at_call 66
    refine forgetK (fun wr => Up w wr ∧ Box wr w.heap.size #[.slice a n c, .int .i64 home, .slice sa sn sc, .slice ca cn cc] 28 ∧ Box wr (w.heap.size + 1) #[.int .i64 (d.l.1), .int .i64 (d.l.2), .int .i64 (d.h.1), .int .i64 (d.h.2), .int .i64 (d.g)] 68) ⟨(by repeat (first | with_reducible exact Up.refl _ | with_reducible apply Up.plus | apply Up.ext | apply Up.alloc | apply Up.drew | (refine Up.setCell ?_ (by simp; try omega) _))), (by repeat (first | exact Box.mk rfl | (refine Box.mk ?_; simp; done) | apply Box.ext | apply Box.drew | apply Box.alloc | apply Box.two1 | (refine Box.other ?_ (by omega) _ _))), (by repeat (first | exact Box.mk rfl | (refine Box.mk ?_; simp; done) | apply Box.ext | apply Box.drew | apply Box.alloc | apply Box.two1 | (refine Box.other ?_ (by omega) _ _)))⟩ ?_
    rintro V0 ⟨hu, b0, b1⟩
    have HB0 := hide (And.intro hu (And.intro b0 b1))
    clear hu b0 b1
    have s0 := (HB0.out.2.1).cell 0 rfl
    have s1 := (HB0.out.2.1).cell 1 rfl
    have s2 := (HB0.out.2.1).cell 2 rfl
    have s3 := (HB0.out.2.1).cell 3 rfl
    have ls := (HB0.out.2.1).lt
    have dd0 := (HB0.out.2.2).cell 0 rfl
    have dd1 := (HB0.out.2.2).cell 1 rfl
    have dd2 := (HB0.out.2.2).cell 2 rfl
    have dd3 := (HB0.out.2.2).cell 3 rfl
    have dd4 := (HB0.out.2.2).cell 4 rfl
    have ldd := (HB0.out.2.2).lt
    refine (HC.out _ (by repeat (first | with_reducible exact HB0.out.1 | with_reducible exact Up.refl _ | with_reducible apply Up.ext | with_reducible apply Up.alloc | with_reducible apply Up.drew | (with_reducible refine Up.setCell ?_ (by simp only; omega) _)))).mono ?_
    intro p1
    go_wp2_with fail
    go_at_call 90
    refine (HP.out 0 (by omega) _ (by repeat (first | with_reducible exact HB0.out.1 | with_reducible exact Up.refl _ | with_reducible apply Up.ext | with_reducible apply Up.alloc | with_reducible apply Up.drew | (with_reducible refine Up.setCell ?_ (by simp only; omega) _)))).mono ?_
    rintro _ _ ⟨a0, n0, c0, p2, rfl, hbx, rfl⟩
    clear hbx
    rw [h0]
    go_wp2
    go_ret
    exact ⟨rfl, (by repeat (first | with_reducible exact HB0.out.1 | with_reducible exact Up.refl _ | with_reducible apply Up.ext | with_reducible apply Up.alloc | with_reducible apply Up.drew | (with_reducible refine Up.setCell ?_ (by simp only; omega) _)))⟩
  have d2 : decide ((10 : Int) < on) = false := by simp; omega
  rw [if_neg (by omega)]
  (unfold Gives; go_enter Tryz.func36, Tryz.ntmps36)
  go_wp2_with fail
  go_at_call 66
  refine forgetK (fun wr => Up w wr ∧ Box wr w.heap.size #[.slice a n c, .int .i64 home, .slice sa sn sc, .slice ca cn cc] 28 ∧ Box wr (w.heap.size + 1) #[.int .i64 (d.l.1), .int .i64 (d.l.2), .int .i64 (d.h.1), .int .i64 (d.h.2), .int .i64 (d.g)] 68) ⟨(by repeat (first | with_reducible exact Up.refl _ | with_reducible apply Up.plus | apply Up.ext | apply Up.alloc | apply Up.drew | (refine Up.setCell ?_ (by simp; try omega) _))), (by repeat (first | exact Box.mk rfl | (refine Box.mk ?_; simp; done) | apply Box.ext | apply Box.drew | apply Box.alloc | apply Box.two1 | (refine Box.other ?_ (by omega) _ _))), (by repeat (first | exact Box.mk rfl | (refine Box.mk ?_; simp; done) | apply Box.ext | apply Box.drew | apply Box.alloc | apply Box.two1 | (refine Box.other ?_ (by omega) _ _)))⟩ ?_
  rintro V0 ⟨hu, b0, b1⟩
  have HB0 := hide (And.intro hu (And.intro b0 b1))
  clear hu b0 b1
  have s0 := (HB0.out.2.1).cell 0 rfl
  have s1 := (HB0.out.2.1).cell 1 rfl
  have s2 := (HB0.out.2.1).cell 2 rfl
  have s3 := (HB0.out.2.1).cell 3 rfl
  have ls := (HB0.out.2.1).lt
  have dd0 := (HB0.out.2.2).cell 0 rfl
  have dd1 := (HB0.out.2.2).cell 1 rfl
  have dd2 := (HB0.out.2.2).cell 2 rfl
  have dd3 := (HB0.out.2.2).cell 3 rfl
  have dd4 := (HB0.out.2.2).cell 4 rfl
  have ldd := (HB0.out.2.2).lt
  refine (HC.out _ (by repeat (first | with_reducible exact HB0.out.1 | with_reducible exact Up.refl _ | with_reducible apply Up.ext | with_reducible apply Up.alloc | with_reducible apply Up.drew | (with_reducible refine Up.setCell ?_ (by simp only; omega) _)))).mono ?_
  intro p1
  go_wp2_with fail
  go_at_call 90
  refine (HP.out 0 (by omega) _ (by repeat (first | with_reducible exact HB0.out.1 | with_reducible exact Up.refl _ | with_reducible apply Up.ext | with_reducible apply Up.alloc | with_reducible apply Up.drew | (with_reducible refine Up.setCell ?_ (by simp only; omega) _)))).mono ?_
  rintro _ _ ⟨a0, n0, c0, p2, rfl, hbx, rfl⟩
  clear hbx
  rw [h0]
  go_wp2_with fail
  refine forgetW (fun wr => Up w wr ∧ Box wr w.heap.size #[.slice a n c, .int .i64 home, .slice sa sn sc, .slice ca cn cc] 28 ∧ Box wr (w.heap.size + 1) #[.int .i64 (d.l.1), .int .i64 (d.l.2), .int .i64 (d.h.1), .int .i64 (d.h.2), .int .i64 (d.g)] 68) ⟨(by repeat (first | with_reducible exact HB0.out.1 | with_reducible exact Up.refl _ | with_reducible apply Up.ext | with_reducible apply Up.alloc | with_reducible apply Up.drew | (with_reducible refine Up.setCell ?_ (by simp only; omega) _))), (by repeat (first | with_reducible exact HB0.out.2.1 | with_reducible apply Box.ext | with_reducible apply Box.alloc | with_reducible apply Box.drew | (with_reducible refine Box.other ?_ (by omega) _ _))), (by repeat (first | with_reducible exact HB0.out.2.2 | with_reducible apply Box.ext | with_reducible apply Box.alloc | with_reducible apply Box.drew | (with_reducible refine Box.other ?_ (by omega) _ _)))⟩ ?_
  intro V9 h9
  have H0 := hide (And.intro h9 (show noneYet (fun o => OW o != 0) offers 0 from fun i p hi _ => by omega))
  clear h9 HB0 s0 s1 s2 s3 ls dd0 dd1 dd2 dd3 dd4 ldd
  go_loopw [12] (fun sx wr => ∃ k : Nat, k ≤ on ∧ sx = .int .i64 k ∧ Hid ((Up w wr ∧ Box wr w.heap.size #[.slice a n c, .int .i64 home, .slice sa sn sc, .slice ca cn cc] 28 ∧ Box wr (w.heap.size + 1) #[.int .i64 (d.l.1), .int .i64 (d.l.2), .int .i64 (d.h.1), .int .i64 (d.h.2), .int .i64 (d.g)] 68) ∧ noneYet (fun o => OW o != 0) offers k)) (fun sx _ => on - (intOf sx).toNat)
  case atStart => exact ⟨0, by omega, rfl, H0⟩
  case round =>
    obtain ⟨k, hk, rfl, HJ⟩ := hrel
    clear H0
    have s0 := (HJ.out.1.2.1).cell 0 rfl
    have s1 := (HJ.out.1.2.1).cell 1 rfl
    have s2 := (HJ.out.1.2.1).cell 2 rfl
    have s3 := (HJ.out.1.2.1).cell 3 rfl
    have ls := (HJ.out.1.2.1).lt
    have dd0 := (HJ.out.1.2.2).cell 0 rfl
    have dd1 := (HJ.out.1.2.2).cell 1 rfl
    have dd2 := (HJ.out.1.2.2).cell 2 rfl
    have dd3 := (HJ.out.1.2.2).cell 3 rfl
    have dd4 := (HJ.out.1.2.2).cell 4 rfl
    have ldd := (HJ.out.1.2.2).lt
    by_cases hlt : k < on
    · have hkb : decide ((k : Int) < on) = true := by simp; omega
      have hkn : decide (k < on) = true := by simp; omega
      obtain ⟨ob, oo, o, rfl, _, how, hp, f0, f1, f2, f3, f4, f5, f6, f7, f8, f9, f10⟩ := (Offs.at (HO.out.keeps (HJ.out.1.1.keeps KO))).2.2 k hlt
      have HPP := hide hp
      have hwo := HW.out.1 o
      clear hp
      have HOO := hide (HOF2.out o)
      have HT2 := hide (HW.out.2 o)
      by_cases g0 : OE o = 0
      rotate_left
      · have hgb : (OE o != 0) = true := by simpa using g0
        have HF := hide (show firstE OW offers = OE o by rw [firstE_found HJ.out.2 HPP.out (by rw [hwo, if_neg g0]; exact g0), hwo, if_neg g0])
        generalize OE o = E at *
        clear hwo g0
        go_wp2_with fail
        ((first | with_reducible refine wp_region_ext2 (by kernel_rfl) (by kernel_rfl) ?_ | refine wp_region_ext (by kernel_rfl) (by kernel_rfl) ?_); (repeat (go_big_quiet_step ((go_at_call 67; with_reducible exact Gives.inRegion (HOO.out _ (by repeat (first | with_reducible exact HJ.out.1.1 | with_reducible exact Up.refl _ | with_reducible apply Up.ext | with_reducible apply Up.alloc | with_reducible apply Up.drew | (with_reducible refine Up.setCell ?_ (by simp only; omega) _)))))))); refine wpQuiet_nil ?_; intro _ hw'; obtain ⟨_, hw''⟩ := hw'; subst hw'')
        go_wp2
        go_ret
        exact ⟨ret_int (by rw [HF.out]), (by repeat (first | with_reducible exact HJ.out.1.1 | with_reducible exact Up.refl _ | with_reducible apply Up.ext | with_reducible apply Up.alloc | with_reducible apply Up.drew | (with_reducible refine Up.setCell ?_ (by simp only; omega) _)))⟩
      have tk := HT2.out g0
      rw [if_pos g0] at hwo
      rw [g0] at HOO
      by_cases g1 : withinB o.tick t (t + 400) = true
      rotate_left
      · have HIo := hide (HI.out o.tick)
        rw [show withinB o.tick t (t + 400) = false by simpa using g1] at HIo
        have HF := hide (show firstE OW offers = 2 by rw [firstE_found HJ.out.2 HPP.out (by rw [hwo, if_neg g1]; decide), hwo, if_neg g1])
        clear hwo g1
        go_wp2_with fail
        ((first | with_reducible refine wp_region_ext2 (by kernel_rfl) (by kernel_rfl) ?_ | refine wp_region_ext (by kernel_rfl) (by kernel_rfl) ?_); (repeat (go_big_quiet_step ((go_at_call 67; with_reducible exact Gives.inRegion (HOO.out _ (by repeat (first | with_reducible exact HJ.out.1.1 | with_reducible exact Up.refl _ | with_reducible apply Up.ext | with_reducible apply Up.alloc | with_reducible apply Up.drew | (with_reducible refine Up.setCell ?_ (by simp only; omega) _)))))))); refine wpQuiet_nil ?_; intro _ hw'; obtain ⟨_, hw''⟩ := hw'; subst hw'')
        go_wp2_with (go_at_call 71; (with_reducible refine (HIo.out _).mono ?_); intro _)
        go_ret
        exact ⟨ret_int (by rw [HF.out]), (by repeat (first | with_reducible exact HJ.out.1.1 | with_reducible exact Up.refl _ | with_reducible apply Up.ext | with_reducible apply Up.alloc | with_reducible apply Up.drew | (with_reducible refine Up.setCell ?_ (by simp only; omega) _)))⟩
      rw [if_pos g1] at hwo
      have HIo := hide (HI.out o.tick)
      rw [g1] at HIo
      clear g1
      have HPo := hide (HP.out (o.tick - t) (by omega))
      obtain ⟨m, hm⟩ : ∃ m, o.tick - t = m := ⟨_, rfl⟩
      by_cases g2 : PE (o.tick - t) = 0
      · rw [g2] at HPo hwo
        have HF := hide (HJ.out.2.succ HPP.out (show (OW o != 0) = false by rw [hwo]; rfl))
        clear hwo g2 hm
        go_wp2_with fail
        ((first | with_reducible refine wp_region_ext2 (by kernel_rfl) (by kernel_rfl) ?_ | refine wp_region_ext (by kernel_rfl) (by kernel_rfl) ?_); (repeat (go_big_quiet_step ((go_at_call 67; with_reducible exact Gives.inRegion (HOO.out _ (by repeat (first | with_reducible exact HJ.out.1.1 | with_reducible exact Up.refl _ | with_reducible apply Up.ext | with_reducible apply Up.alloc | with_reducible apply Up.drew | (with_reducible refine Up.setCell ?_ (by simp only; omega) _)))))))); refine wpQuiet_nil ?_; intro _ hw'; obtain ⟨_, hw''⟩ := hw'; subst hw'')
        go_wp2_with (go_at_call 71; (with_reducible refine (HIo.out _).mono ?_); intro _)
        go_wp2_with fail
        refine wp_region_float (al := []) (mv := fun k => k == 12) [16] [0, 1, 2, 3, 4, 5, 6, 7, 8, 9, 10, 11, 12, 13, 14, 15] (by kernel_rfl) (by kernel_rfl) makes0 (cls_ext wr) (by first | exact drew_in2 _ _ | exact drew_in _) (Nat.le_refl _) ?_
        simp only [withOps, List.filterMap_cons, List.filterMap_nil, List.getElem?_toArray, List.getElem?_cons_zero, List.getElem?_cons_succ, Option.map_some]
        (repeat (first | (apply walkF_pure (base := fun p : Ext => ext _ p) rfl rfl rfl (by kernel_rfl); · (intro px K hK; go_big_quiet_op; first | exact hK | (apply Exists.intro; refine ⟨fun _ => ?_, ?_⟩; (· (fail)); exact hK))) | (apply walkF_skip rfl; simp only [Act.put, List.setIfInBounds_toArray, List.set_cons_zero, List.set_cons_succ])))
        refine walkF_call _ _ (list_call (V := wr) (fun W hW => HPo.out W (HJ.out.1.1.trans hW))) (fun _ _ => cls_ext wr) rfl rfl (fun _ => by simp [go_sem]) ?_
        rintro _ ⟨a1, n1, c1, rfl⟩
        simp only [Act.put, List.setIfInBounds_toArray, List.set_cons_zero, List.set_cons_succ]
        (repeat (first | (apply walkF_pure (base := fun p : Ext => ext _ p) rfl rfl rfl (by kernel_rfl); · (intro px K hK; go_big_quiet_op; first | exact hK | (apply Exists.intro; refine ⟨fun _ => ?_, ?_⟩; (· (fail)); exact hK))) | (apply walkF_skip rfl; simp only [Act.put, List.setIfInBounds_toArray, List.set_cons_zero, List.set_cons_succ])))
        refine walkF_nil (end0 (fun W4 hW4 => ?_))
        (try simp only [List.filterMap_cons, List.filterMap_nil, List.getElem?_toArray, List.getElem?_cons_zero, List.getElem?_cons_succ])
        have hUp : Up wr W4 := hW4
        refine forgetW (fun V => Up w V ∧ Box V w.heap.size #[.slice a n c, .int .i64 home, .slice sa sn sc, .slice ca cn cc] 28 ∧ Box V (w.heap.size + 1) #[.int .i64 (d.l.1), .int .i64 (d.l.2), .int .i64 (d.h.1), .int .i64 (d.h.2), .int .i64 (d.g)] 68) ⟨HJ.out.1.1.trans hUp, HJ.out.1.2.1.up hUp, HJ.out.1.2.2.up hUp⟩ ?_
        clear hUp hW4 s0 s1 s2 s3 ls dd0 dd1 dd2 dd3 dd4 ldd f0 f1 f2 f3 f4 f5 f6 f7 f8 f9 f10
        intro V5 h5
        have HK := hide h5
        clear h5
        go_wp2_with fail
        go_roundw
        case rel => exact ⟨k + 1, by omega, by go_num, hide ⟨⟨(by repeat (first | with_reducible exact HK.out.1 | with_reducible exact Up.refl _ | with_reducible apply Up.ext | with_reducible apply Up.alloc | with_reducible apply Up.drew | (with_reducible refine Up.setCell ?_ (by simp only; omega) _))), (by repeat (first | with_reducible exact HK.out.2.1 | with_reducible apply Box.ext | with_reducible apply Box.alloc | with_reducible apply Box.drew | (with_reducible refine Box.other ?_ (by omega) _ _))), (by repeat (first | with_reducible exact HK.out.2.2 | with_reducible apply Box.ext | with_reducible apply Box.alloc | with_reducible apply Box.drew | (with_reducible refine Box.other ?_ (by omega) _ _)))⟩, HF.out⟩⟩
        case measure => simp [intOf]; omega
      · have hgb : (PE (o.tick - t) != 0) = true := by simpa using g2
        have HF := hide (show firstE OW offers = PE (o.tick - t) by rw [firstE_found HJ.out.2 HPP.out (by rw [hwo]; exact g2), hwo])
        clear hwo g2 hm
        go_wp2_with fail
        ((first | with_reducible refine wp_region_ext2 (by kernel_rfl) (by kernel_rfl) ?_ | refine wp_region_ext (by kernel_rfl) (by kernel_rfl) ?_); (repeat (go_big_quiet_step ((go_at_call 67; with_reducible exact Gives.inRegion (HOO.out _ (by repeat (first | with_reducible exact HJ.out.1.1 | with_reducible exact Up.refl _ | with_reducible apply Up.ext | with_reducible apply Up.alloc | with_reducible apply Up.drew | (with_reducible refine Up.setCell ?_ (by simp only; omega) _)))))))); refine wpQuiet_nil ?_; intro _ hw'; obtain ⟨_, hw''⟩ := hw'; subst hw'')
        go_wp2_with (go_at_call 71; (with_reducible refine (HIo.out _).mono ?_); intro _)
        go_wp2_with fail
        refine wp_region_float (al := []) (mv := fun k => k == 12) [16] [0, 1, 2, 3, 4, 5, 6, 7, 8, 9, 10, 11, 12, 13, 14, 15] (by kernel_rfl) (by kernel_rfl) makes0 (cls_ext wr) (by first | exact drew_in2 _ _ | exact drew_in _) (Nat.le_refl _) ?_
        simp only [withOps, List.filterMap_cons, List.filterMap_nil, List.getElem?_toArray, List.getElem?_cons_zero, List.getElem?_cons_succ, Option.map_some]
        (repeat (first | (apply walkF_pure (base := fun p : Ext => ext _ p) rfl rfl rfl (by kernel_rfl); · (intro px K hK; go_big_quiet_op; first | exact hK | (apply Exists.intro; refine ⟨fun _ => ?_, ?_⟩; (· (fail)); exact hK))) | (apply walkF_skip rfl; simp only [Act.put, List.setIfInBounds_toArray, List.set_cons_zero, List.set_cons_succ])))
        refine walkF_call _ _ (list_call (V := wr) (fun W hW => HPo.out W (HJ.out.1.1.trans hW))) (fun _ _ => cls_ext wr) rfl rfl (fun _ => by simp [go_sem]) ?_
        rintro _ ⟨a1, n1, c1, rfl⟩
        simp only [Act.put, List.setIfInBounds_toArray, List.set_cons_zero, List.set_cons_succ]
        (repeat (first | (apply walkF_pure (base := fun p : Ext => ext _ p) rfl rfl rfl (by kernel_rfl); · (intro px K hK; go_big_quiet_op; first | exact hK | (apply Exists.intro; refine ⟨fun _ => ?_, ?_⟩; (· (fail)); exact hK))) | (apply walkF_skip rfl; simp only [Act.put, List.setIfInBounds_toArray, List.set_cons_zero, List.set_cons_succ])))
        refine walkF_nil (end0 (fun W4 hW4 => ?_))
        (try simp only [List.filterMap_cons, List.filterMap_nil, List.getElem?_toArray, List.getElem?_cons_zero, List.getElem?_cons_succ])
        have hUp : Up wr W4 := hW4
        refine forgetW (fun V => Up w V ∧ Box V w.heap.size #[.slice a n c, .int .i64 home, .slice sa sn sc, .slice ca cn cc] 28 ∧ Box V (w.heap.size + 1) #[.int .i64 (d.l.1), .int .i64 (d.l.2), .int .i64 (d.h.1), .int .i64 (d.h.2), .int .i64 (d.g)] 68) ⟨HJ.out.1.1.trans hUp, HJ.out.1.2.1.up hUp, HJ.out.1.2.2.up hUp⟩ ?_
        clear hUp hW4 s0 s1 s2 s3 ls dd0 dd1 dd2 dd3 dd4 ldd f0 f1 f2 f3 f4 f5 f6 f7 f8 f9 f10
        intro V5 h5
        have HK := hide h5
        clear h5
        go_wp2
        go_ret
        exact ⟨ret_int (by rw [HF.out]), (by repeat (first | with_reducible exact HK.out.1 | with_reducible exact Up.refl _ | with_reducible apply Up.ext | with_reducible apply Up.alloc | with_reducible apply Up.drew | (with_reducible refine Up.setCell ?_ (by simp only; omega) _)))⟩
    · have hkb : decide ((k : Int) < on) = false := by simp; omega
      have hkn : decide (k < on) = false := by simp; omega
      have HF := hide (show firstE OW offers = 0 from firstE_none (by have := HJ.out.2; rwa [show k = offers.length by have := HNN.out; omega] at this))
      go_wp2
      go_ret
      exact ⟨ret_int (by rw [HF.out]), (by repeat (first | with_reducible exact HJ.out.1.1 | with_reducible exact Up.refl _ | with_reducible apply Up.ext | with_reducible apply Up.alloc | with_reducible apply Up.drew | (with_reducible refine Up.setCell ?_ (by simp only; omega) _)))⟩
end Go.Proofs.YtnaiaodnnmhdkaaGreat

/- The helpers of the statements of layer 6: a place near another one, an area around it. Conditions: bounded numbers. -/
namespace Go.Proofs.YtnaiaodnnmhdkaaGreat
set_option linter.unusedVariables false
set_option linter.unusedSimpArgs false
open Go.RowKit

theorem xarea6_any (a b c d : Int) (w : World) : Gives Tryz.prog 46 #[.int .i64 a, .int .i64 b, .int .i64 c, .int .i64 d] w (.agg #[.int .i64 (a), .int .i64 (b), .int .i64 (c), .int .i64 (d)]) := by
  (unfold Gives; go_enter Tryz.func46, Tryz.ntmps46)
  go_wp2
  all_goals (refine bodyPost_give (by repeat (first | with_reducible exact Up.refl _ | with_reducible apply Up.plus | apply Up.ext | apply Up.alloc | apply Up.drew | (refine Up.setCell ?_ (by simp; try omega) _))) rfl ⟨_, (by simp [results, Tryz.results46, go_sem]; rfl), ?_⟩)
  all_goals rfl
end Go.Proofs.YtnaiaodnnmhdkaaGreat

/- Package watch: the values of a place. Conditions: what lies in memory. -/
namespace Go.Proofs.YtnaiaodnnmhdkaaGreat
set_option linter.unusedVariables false
set_option linter.unusedSimpArgs false
open Go.RowKit Go.Shelf

theorem fieldV_true {s : SkyD} {o : OffD} {p : Int × Int} (h : fieldV s o p = true) : offE s o = 0 ∧ PBd p ∧ fieldK (kndOf s o) p = true := by
  unfold fieldV at h
  simp only [Bool.and_eq_true, decide_eq_true_eq] at h
  exact ⟨h.1, (nearV_iff _ _).1 h.2.1, h.2.2⟩
theorem field_front {k : KndD} {p : Int × Int} (h : fieldK k p = true) (hs : k.sc = true) : 0 < doK k p := by
  unfold fieldK at h
  simp only [Bool.and_eq_true, Bool.or_eq_true, Bool.not_eq_true'] at h
  have := h.2.resolve_left (by simp [hs])
  unfold withinK at this
  simp only [Bool.and_eq_true, decide_eq_true_eq] at this
  exact this.1
set_option maxRecDepth 100000 in
set_option maxHeartbeats 4000000 in
theorem wReads_any {K : Nat → Prop} {w : World} {a sa ca : Option Addr} {n c sn sc cn cc : Nat} {s : SkyD} (hL : SkyL K w a n c sa sn sc ca cn cc s) (o : OffD) (p : Int × Int) : Gives Tryz.prog 14 #[.agg #[.slice a n c, .int .i64 s.home, .slice sa sn sc, .slice ca cn cc], .agg (offA o), .agg #[.int .i64 (p.1), .int .i64 (p.2)]] w (.tuple #[.agg #[.int .i64 ((readsV s o p).1.1), .int .i64 ((readsV s o p).1.2)], .bool (readsV s o p).2]) := by
  have HF := hide (fun W (hu : Up w W) => wField_any (hL.up hu) o p)
  unfold readsV
  by_cases hF : fieldV s o p = true
  rotate_left
  · rw [if_neg (by simp [hF])]
    rw [show fieldV s o p = false by simpa using hF] at HF
    generalize s.home = home at *
    clear hL hF
    obtain ⟨p1, p2⟩ := p
    dsimp only at *
    (unfold Gives; go_enter Tryz.func14, Tryz.ntmps14)
    go_wp2_with fail
    go_at_call 18
    refine forgetK (fun V => Up w V ∧ Box V w.heap.size #[.slice a n c, .int .i64 home, .slice sa sn sc, .slice ca cn cc] 28 ∧ Box V (w.heap.size + 1) (offA o) 32 ∧ Box V (w.heap.size + 1 + 1) #[.int .i64 (p1), .int .i64 (p2)] 30 ∧ Box V (w.heap.size + 1 + 1 + 1) #[.int .i64 (0), .int .i64 (0)] 38) ⟨(by repeat (first | with_reducible exact Up.refl _ | with_reducible apply Up.plus | apply Up.ext | apply Up.alloc | apply Up.drew | (refine Up.setCell ?_ (by simp; try omega) _))), (by repeat (first | exact Box.mk rfl | (refine Box.mk ?_; simp; done) | apply Box.ext | apply Box.drew | apply Box.alloc | apply Box.two1 | (refine Box.other ?_ (by omega) _ _))), (by repeat (first | exact Box.mk rfl | (refine Box.mk ?_; simp; done) | apply Box.ext | apply Box.drew | apply Box.alloc | apply Box.two1 | (refine Box.other ?_ (by omega) _ _))), (by repeat (first | exact Box.mk rfl | (refine Box.mk ?_; simp; done) | apply Box.ext | apply Box.drew | apply Box.alloc | apply Box.two1 | (refine Box.other ?_ (by omega) _ _))), (by repeat (first | exact Box.mk rfl | (refine Box.mk ?_; simp; done) | apply Box.ext | apply Box.drew | apply Box.alloc | apply Box.two1 | (refine Box.other ?_ (by omega) _ _)))⟩ ?_
    rintro V ⟨hu, bs, bo, bp, bz⟩
    have HB := hide (And.intro hu (And.intro bs (And.intro bo (And.intro bp bz))))
    clear hu bs bo bp bz
    refine (HF.out _ HB.out.1).mono ?_
    intro pf
    have s0 := (HB.out.2.1).cell 0 rfl
    have s1 := (HB.out.2.1).cell 1 rfl
    have s2 := (HB.out.2.1).cell 2 rfl
    have s3 := (HB.out.2.1).cell 3 rfl
    have ls := (HB.out.2.1).lt
    have f0 := (HB.out.2.2.1).cell 0 rfl
    have f1 := (HB.out.2.2.1).cell 1 rfl
    have f2 := (HB.out.2.2.1).cell 2 rfl
    have f3 := (HB.out.2.2.1).cell 3 rfl
    have f4 := (HB.out.2.2.1).cell 4 rfl
    have f5 := (HB.out.2.2.1).cell 5 rfl
    have f6 := (HB.out.2.2.1).cell 6 rfl
    have f7 := (HB.out.2.2.1).cell 7 rfl
    have f8 := (HB.out.2.2.1).cell 8 rfl
    have f9 := (HB.out.2.2.1).cell 9 rfl
    have f10 := (HB.out.2.2.1).cell 10 rfl
    have lf := (HB.out.2.2.1).lt
    have g0 := (HB.out.2.2.2.1).cell 0 rfl
    have g1 := (HB.out.2.2.2.1).cell 1 rfl
    have lg := (HB.out.2.2.2.1).lt
    have z0 := (HB.out.2.2.2.2).cell 0 rfl
    have z1 := (HB.out.2.2.2.2).cell 1 rfl
    have lz := (HB.out.2.2.2.2).lt
    have fz0 := (HB.out.2.2.2.2).frozen 0
    have fz1 := (HB.out.2.2.2.2).frozen 1
    go_wp2_with fail
    refine forgetW (fun WF => Up w WF ∧ Box WF (w.heap.size + 1 + 1 + 1) #[.int .i64 (0), .int .i64 (0)] 38) ⟨(by repeat (first | with_reducible exact HB.out.1 | with_reducible exact Up.refl _ | with_reducible apply Up.ext | with_reducible apply Up.alloc | with_reducible apply Up.drew | (with_reducible refine Up.setCell ?_ (by simp only; omega) _))), ?_⟩ ?_
    · exact (by (repeat (first | with_reducible apply Box.ext | with_reducible apply Box.alloc | with_reducible apply Box.drew)); exact ((HB.out.2.2.2.2.set 0 (.int .i64 0)).set 1 (.int .i64 0)))
    rintro WF ⟨huF, hbF⟩
    have w0 := hbF.cell 0 rfl
    have w1 := hbF.cell 1 rfl
    (refine bodyPost_give huF rfl ⟨_, (by simp [results, Tryz.results14, go_sem, w0, w1]; rfl), ?_⟩)
    rfl
  rw [hF] at HF
  obtain ⟨he, hpb, hfk⟩ := fieldV_true hF
  have HO := hide (fun W (hu : Up w W) => wof_any (hL.up hu).b hL.h (hL.up hu).st (hL.up hu).ca he)
  have hk := kbd_of he
  simp only [hF, true_and]
  generalize kndOf s o = k at *
  unfold kndV at HO
  cases hs : k.sc
  · rw [if_neg (by simp [hs])] at HO
    have HR := hide (fun W => wrreads_any hk hpb hs W)
    have hm := fun (n : Nat) (w : World) => (meth_r k n w).2.2.2
    simp only [mReads, theName] at hm
    generalize readsK k p = R at *
    obtain ⟨R1, R2⟩ := R
    generalize s.home = home at *
    clear hL he hk hpb hfk hs hF
    obtain ⟨p1, p2⟩ := p
    dsimp only at *
    have key : ∀ (b : Bool), decide (R2 < R1) = b → Gives Tryz.prog 14 #[.agg #[.slice a n c, .int .i64 home, .slice sa sn sc, .slice ca cn cc], .agg (offA o), .agg #[.int .i64 (p1), .int .i64 (p2)]] w (if b = true then (.tuple #[.agg #[.int .i64 (0), .int .i64 (0)], .bool false]) else (.tuple #[.agg #[.int .i64 (R1), .int .i64 (R2)], .bool true])) := fun b hb => by
      cases b
      all_goals
        (unfold Gives; go_enter Tryz.func14, Tryz.ntmps14)
        go_wp2_with fail
        go_at_call 18
        refine forgetK (fun V => Up w V ∧ Box V w.heap.size #[.slice a n c, .int .i64 home, .slice sa sn sc, .slice ca cn cc] 28 ∧ Box V (w.heap.size + 1) (offA o) 32 ∧ Box V (w.heap.size + 1 + 1) #[.int .i64 (p1), .int .i64 (p2)] 30 ∧ Box V (w.heap.size + 1 + 1 + 1) #[.int .i64 (0), .int .i64 (0)] 38) ⟨(by repeat (first | with_reducible exact Up.refl _ | with_reducible apply Up.plus | apply Up.ext | apply Up.alloc | apply Up.drew | (refine Up.setCell ?_ (by simp; try omega) _))), (by repeat (first | exact Box.mk rfl | (refine Box.mk ?_; simp; done) | apply Box.ext | apply Box.drew | apply Box.alloc | apply Box.two1 | (refine Box.other ?_ (by omega) _ _))), (by repeat (first | exact Box.mk rfl | (refine Box.mk ?_; simp; done) | apply Box.ext | apply Box.drew | apply Box.alloc | apply Box.two1 | (refine Box.other ?_ (by omega) _ _))), (by repeat (first | exact Box.mk rfl | (refine Box.mk ?_; simp; done) | apply Box.ext | apply Box.drew | apply Box.alloc | apply Box.two1 | (refine Box.other ?_ (by omega) _ _))), (by repeat (first | exact Box.mk rfl | (refine Box.mk ?_; simp; done) | apply Box.ext | apply Box.drew | apply Box.alloc | apply Box.two1 | (refine Box.other ?_ (by omega) _ _)))⟩ ?_
        rintro V ⟨hu, bs, bo, bp, bz⟩
        have HB := hide (And.intro hu (And.intro bs (And.intro bo (And.intro bp bz))))
        clear hu bs bo bp bz
        refine (HF.out _ HB.out.1).mono ?_
        intro pf
        have s0 := (HB.out.2.1).cell 0 rfl
        have s1 := (HB.out.2.1).cell 1 rfl
        have s2 := (HB.out.2.1).cell 2 rfl
        have s3 := (HB.out.2.1).cell 3 rfl
        have ls := (HB.out.2.1).lt
        have f0 := (HB.out.2.2.1).cell 0 rfl
        have f1 := (HB.out.2.2.1).cell 1 rfl
        have f2 := (HB.out.2.2.1).cell 2 rfl
        have f3 := (HB.out.2.2.1).cell 3 rfl
        have f4 := (HB.out.2.2.1).cell 4 rfl
        have f5 := (HB.out.2.2.1).cell 5 rfl
        have f6 := (HB.out.2.2.1).cell 6 rfl
        have f7 := (HB.out.2.2.1).cell 7 rfl
        have f8 := (HB.out.2.2.1).cell 8 rfl
        have f9 := (HB.out.2.2.1).cell 9 rfl
        have f10 := (HB.out.2.2.1).cell 10 rfl
        have lf := (HB.out.2.2.1).lt
        have g0 := (HB.out.2.2.2.1).cell 0 rfl
        have g1 := (HB.out.2.2.2.1).cell 1 rfl
        have lg := (HB.out.2.2.2.1).lt
        have z0 := (HB.out.2.2.2.2).cell 0 rfl
        have z1 := (HB.out.2.2.2.2).cell 1 rfl
        have lz := (HB.out.2.2.2.2).lt
        have fz0 := (HB.out.2.2.2.2).frozen 0
        have fz1 := (HB.out.2.2.2.2).frozen 1
        go_wp2_with fail
        refine forgetW (fun V => Up w V ∧ Box V w.heap.size #[.slice a n c, .int .i64 home, .slice sa sn sc, .slice ca cn cc] 28 ∧ Box V (w.heap.size + 1) (offA o) 32 ∧ Box V (w.heap.size + 1 + 1) #[.int .i64 (p1), .int .i64 (p2)] 30 ∧ Box V (w.heap.size + 1 + 1 + 1) #[.int .i64 (0), .int .i64 (0)] 38) ⟨(by repeat (first | with_reducible exact HB.out.1 | with_reducible exact Up.refl _ | with_reducible apply Up.ext | with_reducible apply Up.alloc | with_reducible apply Up.drew | (with_reducible refine Up.setCell ?_ (by simp only; omega) _))), (by repeat (first | with_reducible exact HB.out.2.1 | with_reducible apply Box.ext | with_reducible apply Box.alloc | with_reducible apply Box.drew | (with_reducible refine Box.other ?_ (by omega) _ _))), (by repeat (first | with_reducible exact HB.out.2.2.1 | with_reducible apply Box.ext | with_reducible apply Box.alloc | with_reducible apply Box.drew | (with_reducible refine Box.other ?_ (by omega) _ _))), (by repeat (first | with_reducible exact HB.out.2.2.2.1 | with_reducible apply Box.ext | with_reducible apply Box.alloc | with_reducible apply Box.drew | (with_reducible refine Box.other ?_ (by omega) _ _))), (by repeat (first | with_reducible exact HB.out.2.2.2.2 | with_reducible apply Box.ext | with_reducible apply Box.alloc | with_reducible apply Box.drew | (with_reducible refine Box.other ?_ (by omega) _ _)))⟩ ?_
        clear HB s0 s1 s2 s3 ls f0 f1 f2 f3 f4 f5 f6 f7 f8 f9 f10 lf g0 g1 lg z0 z1 lz fz0 fz1
        rintro V ⟨hu, bs, bo, bp, bz⟩
        have HB := hide (And.intro hu (And.intro bs (And.intro bo (And.intro bp bz))))
        clear hu bs bo bp bz
        have s0 := (HB.out.2.1).cell 0 rfl
        have s1 := (HB.out.2.1).cell 1 rfl
        have s2 := (HB.out.2.1).cell 2 rfl
        have s3 := (HB.out.2.1).cell 3 rfl
        have ls := (HB.out.2.1).lt
        have f0 := (HB.out.2.2.1).cell 0 rfl
        have f1 := (HB.out.2.2.1).cell 1 rfl
        have f2 := (HB.out.2.2.1).cell 2 rfl
        have f3 := (HB.out.2.2.1).cell 3 rfl
        have f4 := (HB.out.2.2.1).cell 4 rfl
        have f5 := (HB.out.2.2.1).cell 5 rfl
        have f6 := (HB.out.2.2.1).cell 6 rfl
        have f7 := (HB.out.2.2.1).cell 7 rfl
        have f8 := (HB.out.2.2.1).cell 8 rfl
        have f9 := (HB.out.2.2.1).cell 9 rfl
        have f10 := (HB.out.2.2.1).cell 10 rfl
        have lf := (HB.out.2.2.1).lt
        have g0 := (HB.out.2.2.2.1).cell 0 rfl
        have g1 := (HB.out.2.2.2.1).cell 1 rfl
        have lg := (HB.out.2.2.2.1).lt
        have z0 := (HB.out.2.2.2.2).cell 0 rfl
        have z1 := (HB.out.2.2.2.2).cell 1 rfl
        have lz := (HB.out.2.2.2.2).lt
        have fz0 := (HB.out.2.2.2.2).frozen 0
        have fz1 := (HB.out.2.2.2.2).frozen 1
        refine wp_region_float (al := [(5, 8, #[.int .i64 (0), .int .i64 (0)], 38)]) (mv := fun _ => false) [6] [0, 1, 2, 3, 4] (by kernel_rfl) (by kernel_rfl) (makes1 ⟨_, rfl, rfl, fun _ => rfl, fun _ _ => by simp [go_sem]⟩) (cls_ext _) (by first | exact drew_in2 _ _ | exact drew_in _) (Nat.le_refl _) ?_
        simp only [withOps, List.filterMap_cons, List.filterMap_nil, List.getElem?_toArray, List.getElem?_cons_zero, List.getElem?_cons_succ, Option.map_some]
        (repeat (first | (apply walkF_pure (base := fun p : Ext => ext _ p) rfl rfl rfl (by kernel_rfl); · (intro px K hK; go_big_quiet_op; first | exact hK | (apply Exists.intro; refine ⟨fun _ => ?_, ?_⟩; (· ((first | (go_at_call 58; with_reducible exact Gives.inFloat (HO.out _ (Up.ext HB.out.1 _))) | (go_at_call 311; with_reducible exact Gives.inFloat (HR.out _))))); exact hK))) | (apply walkF_skip rfl; simp only [Act.put, List.setIfInBounds_toArray, List.set_cons_zero, List.set_cons_succ])))
        refine walkF_nil (end1 (fun Q U hq hU bq => ?_))
        simp only [Act.put, List.setIfInBounds_toArray, List.set_cons_zero, List.set_cons_succ]
        (try simp only [List.filterMap_cons, List.filterMap_nil, List.getElem?_toArray, List.getElem?_cons_zero, List.getElem?_cons_succ])
        have hU1 : Up V U := hU
        have HQ := hide (And.intro (HB.out.1.trans hU1) (And.intro (HB.out.2.2.2.2.up hU1) bq))
        have hlz := HB.out.2.2.2.2.lt
        clear s0 s1 s2 s3 ls f0 f1 f2 f3 f4 f5 f6 f7 f8 f9 f10 lf g0 g1 lg z0 z1 lz fz0 fz1
        have q0 := bq.cell 0 rfl
        have q1 := bq.cell 1 rfl
        have lq := bq.lt
        have fq0 := bq.frozen 0
        have fq1 := bq.frozen 1
        have z0 := HQ.out.2.1.cell 0 rfl
        have z1 := HQ.out.2.1.cell 1 rfl
        have lz := HQ.out.2.1.lt
        have fz0 := HQ.out.2.1.frozen 0
        have fz1 := HQ.out.2.1.frozen 1
        have hwQ : w.heap.size ≤ Q := by omega
        have n1 : w.heap.size + 1 + 1 + 1 ≠ Q := by omega
        have n2 : Q ≠ w.heap.size + 1 + 1 + 1 := by omega
        clear hU hU1 bq HB
        go_wp2_with fail
      · refine forgetW (fun WF => Up w WF ∧ Box WF (w.heap.size + 1 + 1 + 1) #[.int .i64 (R1), .int .i64 (R2)] 38) ⟨(by repeat (first | with_reducible exact HQ.out.1 | with_reducible exact Up.refl _ | with_reducible apply Up.ext | with_reducible apply Up.alloc | with_reducible apply Up.drew | (with_reducible refine Up.setCell ?_ (by simp only; omega) _))), ?_⟩ ?_
        · exact (by (repeat (first | with_reducible apply Box.ext | with_reducible apply Box.alloc | with_reducible apply Box.drew)); exact ((((HQ.out.2.1.other (b' := Q) n1 0 (.int .i64 R1)).other (b' := Q) n1 1 (.int .i64 R2)).set 0 (.int .i64 R1)).set 1 (.int .i64 R2)))
        rintro WF ⟨huF, hbF⟩
        have w0 := hbF.cell 0 rfl
        have w1 := hbF.cell 1 rfl
        (refine bodyPost_give huF rfl ⟨_, (by simp [results, Tryz.results14, go_sem, w0, w1]; rfl), ?_⟩)
        rfl
      · refine forgetW (fun WF => Up w WF ∧ Box WF (w.heap.size + 1 + 1 + 1) #[.int .i64 (0), .int .i64 (0)] 38) ⟨(by repeat (first | with_reducible exact HQ.out.1 | with_reducible exact Up.refl _ | with_reducible apply Up.ext | with_reducible apply Up.alloc | with_reducible apply Up.drew | (with_reducible refine Up.setCell ?_ (by simp only; omega) _))), ?_⟩ ?_
        · exact (by (repeat (first | with_reducible apply Box.ext | with_reducible apply Box.alloc | with_reducible apply Box.drew)); exact ((((HQ.out.2.1.other (b' := Q) n1 0 (.int .i64 R1)).other (b' := Q) n1 1 (.int .i64 R2)).set 0 (.int .i64 0)).set 1 (.int .i64 0)))
        rintro WF ⟨huF, hbF⟩
        have w0 := hbF.cell 0 rfl
        have w1 := hbF.cell 1 rfl
        (refine bodyPost_give huF rfl ⟨_, (by simp [results, Tryz.results14, go_sem, w0, w1]; rfl), ?_⟩)
        rfl
    by_cases hle : R1 ≤ R2
    · rw [if_pos hle]; exact key false (by simpa using hle)
    · rw [if_neg hle]; exact key true (by simpa using hle)
  · rw [if_pos (by simp [hs])] at HO
    have HR := hide (fun W => wsreads_any hk hpb hs (field_front hfk hs) W)
    have hm := fun (n : Nat) (w : World) => (meth_s k n w).2.2.2
    simp only [mReads, theName] at hm
    generalize readsK k p = R at *
    obtain ⟨R1, R2⟩ := R
    generalize s.home = home at *
    clear hL he hk hpb hfk hs hF
    obtain ⟨p1, p2⟩ := p
    dsimp only at *
    have key : ∀ (b : Bool), decide (R2 < R1) = b → Gives Tryz.prog 14 #[.agg #[.slice a n c, .int .i64 home, .slice sa sn sc, .slice ca cn cc], .agg (offA o), .agg #[.int .i64 (p1), .int .i64 (p2)]] w (if b = true then (.tuple #[.agg #[.int .i64 (0), .int .i64 (0)], .bool false]) else (.tuple #[.agg #[.int .i64 (R1), .int .i64 (R2)], .bool true])) := fun b hb => by
      cases b
      all_goals
        (unfold Gives; go_enter Tryz.func14, Tryz.ntmps14)
        go_wp2_with fail
        go_at_call 18
        refine forgetK (fun V => Up w V ∧ Box V w.heap.size #[.slice a n c, .int .i64 home, .slice sa sn sc, .slice ca cn cc] 28 ∧ Box V (w.heap.size + 1) (offA o) 32 ∧ Box V (w.heap.size + 1 + 1) #[.int .i64 (p1), .int .i64 (p2)] 30 ∧ Box V (w.heap.size + 1 + 1 + 1) #[.int .i64 (0), .int .i64 (0)] 38) ⟨(by repeat (first | with_reducible exact Up.refl _ | with_reducible apply Up.plus | apply Up.ext | apply Up.alloc | apply Up.drew | (refine Up.setCell ?_ (by simp; try omega) _))), (by repeat (first | exact Box.mk rfl | (refine Box.mk ?_; simp; done) | apply Box.ext | apply Box.drew | apply Box.alloc | apply Box.two1 | (refine Box.other ?_ (by omega) _ _))), (by repeat (first | exact Box.mk rfl | (refine Box.mk ?_; simp; done) | apply Box.ext | apply Box.drew | apply Box.alloc | apply Box.two1 | (refine Box.other ?_ (by omega) _ _))), (by repeat (first | exact Box.mk rfl | (refine Box.mk ?_; simp; done) | apply Box.ext | apply Box.drew | apply Box.alloc | apply Box.two1 | (refine Box.other ?_ (by omega) _ _))), (by repeat (first | exact Box.mk rfl | (refine Box.mk ?_; simp; done) | apply Box.ext | apply Box.drew | apply Box.alloc | apply Box.two1 | (refine Box.other ?_ (by omega) _ _)))⟩ ?_
        rintro V ⟨hu, bs, bo, bp, bz⟩
        have HB := hide (And.intro hu (And.intro bs (And.intro bo (And.intro bp bz))))
        clear hu bs bo bp bz
        refine (HF.out _ HB.out.1).mono ?_
        intro pf
        have s0 := (HB.out.2.1).cell 0 rfl
        have s1 := (HB.out.2.1).cell 1 rfl
        have s2 := (HB.out.2.1).cell 2 rfl
        have s3 := (HB.out.2.1).cell 3 rfl
        have ls := (HB.out.2.1).lt
        have f0 := (HB.out.2.2.1).cell 0 rfl
        have f1 := (HB.out.2.2.1).cell 1 rfl
        have f2 := (HB.out.2.2.1).cell 2 rfl
        have f3 := (HB.out.2.2.1).cell 3 rfl
        have f4 := (HB.out.2.2.1).cell 4 rfl
        have f5 := (HB.out.2.2.1).cell 5 rfl
        have f6 := (HB.out.2.2.1).cell 6 rfl
        have f7 := (HB.out.2.2.1).cell 7 rfl
        have f8 := (HB.out.2.2.1).cell 8 rfl
        have f9 := (HB.out.2.2.1).cell 9 rfl
        have f10 := (HB.out.2.2.1).cell 10 rfl
        have lf := (HB.out.2.2.1).lt
        have g0 := (HB.out.2.2.2.1).cell 0 rfl
        have g1 := (HB.out.2.2.2.1).cell 1 rfl
        have lg := (HB.out.2.2.2.1).lt
        have z0 := (HB.out.2.2.2.2).cell 0 rfl
        have z1 := (HB.out.2.2.2.2).cell 1 rfl
        have lz := (HB.out.2.2.2.2).lt
        have fz0 := (HB.out.2.2.2.2).frozen 0
        have fz1 := (HB.out.2.2.2.2).frozen 1
        go_wp2_with fail
        refine forgetW (fun V => Up w V ∧ Box V w.heap.size #[.slice a n c, .int .i64 home, .slice sa sn sc, .slice ca cn cc] 28 ∧ Box V (w.heap.size + 1) (offA o) 32 ∧ Box V (w.heap.size + 1 + 1) #[.int .i64 (p1), .int .i64 (p2)] 30 ∧ Box V (w.heap.size + 1 + 1 + 1) #[.int .i64 (0), .int .i64 (0)] 38) ⟨(by repeat (first | with_reducible exact HB.out.1 | with_reducible exact Up.refl _ | with_reducible apply Up.ext | with_reducible apply Up.alloc | with_reducible apply Up.drew | (with_reducible refine Up.setCell ?_ (by simp only; omega) _))), (by repeat (first | with_reducible exact HB.out.2.1 | with_reducible apply Box.ext | with_reducible apply Box.alloc | with_reducible apply Box.drew | (with_reducible refine Box.other ?_ (by omega) _ _))), (by repeat (first | with_reducible exact HB.out.2.2.1 | with_reducible apply Box.ext | with_reducible apply Box.alloc | with_reducible apply Box.drew | (with_reducible refine Box.other ?_ (by omega) _ _))), (by repeat (first | with_reducible exact HB.out.2.2.2.1 | with_reducible apply Box.ext | with_reducible apply Box.alloc | with_reducible apply Box.drew | (with_reducible refine Box.other ?_ (by omega) _ _))), (by repeat (first | with_reducible exact HB.out.2.2.2.2 | with_reducible apply Box.ext | with_reducible apply Box.alloc | with_reducible apply Box.drew | (with_reducible refine Box.other ?_ (by omega) _ _)))⟩ ?_
        clear HB s0 s1 s2 s3 ls f0 f1 f2 f3 f4 f5 f6 f7 f8 f9 f10 lf g0 g1 lg z0 z1 lz fz0 fz1
        rintro V ⟨hu, bs, bo, bp, bz⟩
        have HB := hide (And.intro hu (And.intro bs (And.intro bo (And.intro bp bz))))
        clear hu bs bo bp bz
        have s0 := (HB.out.2.1).cell 0 rfl
        have s1 := (HB.out.2.1).cell 1 rfl
        have s2 := (HB.out.2.1).cell 2 rfl
        have s3 := (HB.out.2.1).cell 3 rfl
        have ls := (HB.out.2.1).lt
        have f0 := (HB.out.2.2.1).cell 0 rfl
        have f1 := (HB.out.2.2.1).cell 1 rfl
        have f2 := (HB.out.2.2.1).cell 2 rfl
        have f3 := (HB.out.2.2.1).cell 3 rfl
        have f4 := (HB.out.2.2.1).cell 4 rfl
        have f5 := (HB.out.2.2.1).cell 5 rfl
        have f6 := (HB.out.2.2.1).cell 6 rfl
        have f7 := (HB.out.2.2.1).cell 7 rfl
        have f8 := (HB.out.2.2.1).cell 8 rfl
        have f9 := (HB.out.2.2.1).cell 9 rfl
        have f10 := (HB.out.2.2.1).cell 10 rfl
        have lf := (HB.out.2.2.1).lt
        have g0 := (HB.out.2.2.2.1).cell 0 rfl
        have g1 := (HB.out.2.2.2.1).cell 1 rfl
        have lg := (HB.out.2.2.2.1).lt
        have z0 := (HB.out.2.2.2.2).cell 0 rfl
        have z1 := (HB.out.2.2.2.2).cell 1 rfl
        have lz := (HB.out.2.2.2.2).lt
        have fz0 := (HB.out.2.2.2.2).frozen 0
        have fz1 := (HB.out.2.2.2.2).frozen 1
        refine wp_region_float (al := [(5, 8, #[.int .i64 (0), .int .i64 (0)], 38)]) (mv := fun _ => false) [6] [0, 1, 2, 3, 4] (by kernel_rfl) (by kernel_rfl) (makes1 ⟨_, rfl, rfl, fun _ => rfl, fun _ _ => by simp [go_sem]⟩) (cls_ext _) (by first | exact drew_in2 _ _ | exact drew_in _) (Nat.le_refl _) ?_
        simp only [withOps, List.filterMap_cons, List.filterMap_nil, List.getElem?_toArray, List.getElem?_cons_zero, List.getElem?_cons_succ, Option.map_some]
        (repeat (first | (apply walkF_pure (base := fun p : Ext => ext _ p) rfl rfl rfl (by kernel_rfl); · (intro px K hK; go_big_quiet_op; first | exact hK | (apply Exists.intro; refine ⟨fun _ => ?_, ?_⟩; (· ((first | (go_at_call 58; with_reducible exact Gives.inFloat (HO.out _ (Up.ext HB.out.1 _))) | (go_at_call 317; with_reducible exact Gives.inFloat (HR.out _))))); exact hK))) | (apply walkF_skip rfl; simp only [Act.put, List.setIfInBounds_toArray, List.set_cons_zero, List.set_cons_succ])))
        refine walkF_nil (end1 (fun Q U hq hU bq => ?_))
        simp only [Act.put, List.setIfInBounds_toArray, List.set_cons_zero, List.set_cons_succ]
        (try simp only [List.filterMap_cons, List.filterMap_nil, List.getElem?_toArray, List.getElem?_cons_zero, List.getElem?_cons_succ])
        have hU1 : Up V U := hU
        have HQ := hide (And.intro (HB.out.1.trans hU1) (And.intro (HB.out.2.2.2.2.up hU1) bq))
        have hlz := HB.out.2.2.2.2.lt
        clear s0 s1 s2 s3 ls f0 f1 f2 f3 f4 f5 f6 f7 f8 f9 f10 lf g0 g1 lg z0 z1 lz fz0 fz1
        have q0 := bq.cell 0 rfl
        have q1 := bq.cell 1 rfl
        have lq := bq.lt
        have fq0 := bq.frozen 0
        have fq1 := bq.frozen 1
        have z0 := HQ.out.2.1.cell 0 rfl
        have z1 := HQ.out.2.1.cell 1 rfl
        have lz := HQ.out.2.1.lt
        have fz0 := HQ.out.2.1.frozen 0
        have fz1 := HQ.out.2.1.frozen 1
        have hwQ : w.heap.size ≤ Q := by omega
        have n1 : w.heap.size + 1 + 1 + 1 ≠ Q := by omega
        have n2 : Q ≠ w.heap.size + 1 + 1 + 1 := by omega
        clear hU hU1 bq HB
        go_wp2_with fail
      · refine forgetW (fun WF => Up w WF ∧ Box WF (w.heap.size + 1 + 1 + 1) #[.int .i64 (R1), .int .i64 (R2)] 38) ⟨(by repeat (first | with_reducible exact HQ.out.1 | with_reducible exact Up.refl _ | with_reducible apply Up.ext | with_reducible apply Up.alloc | with_reducible apply Up.drew | (with_reducible refine Up.setCell ?_ (by simp only; omega) _))), ?_⟩ ?_
        · exact (by (repeat (first | with_reducible apply Box.ext | with_reducible apply Box.alloc | with_reducible apply Box.drew)); exact ((((HQ.out.2.1.other (b' := Q) n1 0 (.int .i64 R1)).other (b' := Q) n1 1 (.int .i64 R2)).set 0 (.int .i64 R1)).set 1 (.int .i64 R2)))
        rintro WF ⟨huF, hbF⟩
        have w0 := hbF.cell 0 rfl
        have w1 := hbF.cell 1 rfl
        (refine bodyPost_give huF rfl ⟨_, (by simp [results, Tryz.results14, go_sem, w0, w1]; rfl), ?_⟩)
        rfl
      · refine forgetW (fun WF => Up w WF ∧ Box WF (w.heap.size + 1 + 1 + 1) #[.int .i64 (0), .int .i64 (0)] 38) ⟨(by repeat (first | with_reducible exact HQ.out.1 | with_reducible exact Up.refl _ | with_reducible apply Up.ext | with_reducible apply Up.alloc | with_reducible apply Up.drew | (with_reducible refine Up.setCell ?_ (by simp only; omega) _))), ?_⟩ ?_
        · exact (by (repeat (first | with_reducible apply Box.ext | with_reducible apply Box.alloc | with_reducible apply Box.drew)); exact ((((HQ.out.2.1.other (b' := Q) n1 0 (.int .i64 R1)).other (b' := Q) n1 1 (.int .i64 R2)).set 0 (.int .i64 0)).set 1 (.int .i64 0)))
        rintro WF ⟨huF, hbF⟩
        have w0 := hbF.cell 0 rfl
        have w1 := hbF.cell 1 rfl
        (refine bodyPost_give huF rfl ⟨_, (by simp [results, Tryz.results14, go_sem, w0, w1]; rfl), ?_⟩)
        rfl
    by_cases hle : R1 ≤ R2
    · rw [if_pos hle]; exact key false (by simpa using hle)
    · rw [if_neg hle]; exact key true (by simpa using hle)
end Go.Proofs.YtnaiaodnnmhdkaaGreat

/- The sky, the offers of the chapter's examples, and the examples that each law of layer 6 asks. No conditions. -/
namespace Go.Proofs.YtnaiaodnnmhdkaaGreat
set_option linter.unusedVariables false
set_option linter.unusedSimpArgs false
open Go.RowKit Go.Shelf

def shownS : SkyD := ⟨[⟨0, 0, [(0, 0)]⟩], 0, [(1, 0, 0)], [(1, 0, 0)]⟩
def radarO : OffD := ⟨2, 1, 0, 0, 0, 0, 2, 100, 0, 3, true⟩
def scopeO : OffD := ⟨1, 1, 1, 0, 1, 0, 1000, 1000, 500000, 1, false⟩

theorem Vecs.ofB {K : Nat → Prop} {w : World} {B n : Nat} {T : TypeId} {C : Array Value} {l : List (Int × Int)} (hb : Box w B C T) (hK : K B) (hn : n = l.length) (hm : l.length ≤ 1000000)
    (hC : ∀ (i : Nat) (p : Int × Int), l[i]? = some p → C[i * 2]? = some (.int .i64 p.1) ∧ C[i * 2 + 1]? = some (.int .i64 p.2) ∧ I64 p.1 ∧ I64 p.2) (c : Nat) : Vecs K w (.slice (some ⟨B, 0, none⟩) n c) l := by
  subst hn
  refine ⟨_, _, rfl, by omega, fun _ => ⟨B, 0, rfl, hK, hb.lt, fun i x hx => ?_⟩⟩
  obtain ⟨h0, h1, h2, h3⟩ := hC i x hx
  refine ⟨_, ⟨rfl, h2, h3⟩, rfl, fun j u hu => ?_⟩
  match j, hu with
  | 0, hu => cases hu; exact hb.cell _ (by simpa using h0)
  | 1, hu => cases hu; exact hb.cell _ (by simpa using h1)
theorem Tris.ofB {K : Nat → Prop} {w : World} {B n : Nat} {T : TypeId} {C : Array Value} {l : List (Int × Int × Int)} (hb : Box w B C T) (hK : K B) (hn : n = l.length) (hm : l.length ≤ 1000000)
    (hC : ∀ (i : Nat) (p : Int × Int × Int), l[i]? = some p → C[i * 3]? = some (.int .i64 p.1) ∧ C[i * 3 + 1]? = some (.int .i64 p.2.1) ∧ C[i * 3 + 2]? = some (.int .i64 p.2.2) ∧ I64 p.1 ∧ I64 p.2.1 ∧ I64 p.2.2) (c : Nat) : Tris K w (.slice (some ⟨B, 0, none⟩) n c) l := by
  subst hn
  refine ⟨_, _, rfl, by omega, fun _ => ⟨B, 0, rfl, hK, hb.lt, fun i x hx => ?_⟩⟩
  obtain ⟨h0, h1, h2, h3⟩ := hC i x hx
  refine ⟨_, ⟨rfl, h3⟩, rfl, fun j u hu => ?_⟩
  match j, hu with
  | 0, hu => cases hu; exact hb.cell _ (by simpa using h0)
  | 1, hu => cases hu; exact hb.cell _ (by simpa using h1)
  | 2, hu => cases hu; exact hb.cell _ (by simpa using h2)
theorem Bods.ofB {K : Nat → Prop} {w : World} {B n : Nat} {T : TypeId} {C : Array Value} {l : List Bod} (hb : Box w B C T) (hK : K B) (hn : n = l.length) (hm : l.length ≤ 1000000)
    (hC : ∀ (i : Nat) (p : Bod), l[i]? = some p → ∃ tv, C[i * 3]? = some (.int .i64 p.mu) ∧ C[i * 3 + 1]? = some (.int .i64 p.radius) ∧ C[i * 3 + 2]? = some tv ∧ I64 p.mu ∧ I64 p.radius ∧ Vecs K w tv p.track) (c : Nat) : Bods K w (.slice (some ⟨B, 0, none⟩) n c) l := by
  subst hn
  refine ⟨_, _, rfl, by omega, fun _ => ⟨B, 0, rfl, hK, hb.lt, fun i x hx => ?_⟩⟩
  obtain ⟨tv, h0, h1, h2, h3, h4, h5⟩ := hC i x hx
  refine ⟨_, ⟨tv, rfl, h3, h4, h5⟩, rfl, fun j u hu => ?_⟩
  match j, hu with
  | 0, hu => cases hu; exact hb.cell _ (by simpa using h0)
  | 1, hu => cases hu; exact hb.cell _ (by simpa using h1)
  | 2, hu => cases hu; exact hb.cell _ (by simpa using h2)

theorem shown6_any (w : World) : Calls Tryz.prog 43 #[] w fun e W => ∃ (a : Option Addr) (n c : Nat) (sa : Option Addr) (sn sc : Nat) (ca : Option Addr) (cn cc : Nat) (p : Ext),
    e = .returned (.agg #[.slice a n c, .int .i64 0, .slice sa sn sc, .slice ca cn cc]) ∧ SkyL (fun b => w.heap.size ≤ b) W a n c sa sn sc ca cn cc shownS ∧ W = ext w p := by
  go_enter Tryz.func43, Tryz.ntmps43
  go_wp2
  refine forgetW (fun W => Up w W ∧ Box W w.heap.size #[.slice (some ⟨w.heap.size + 1 + 1, 0, none⟩) 1 1, .int .i64 0, .slice (some ⟨w.heap.size + 1 + 1 + 1, 0, none⟩) 1 1, .slice (some ⟨w.heap.size + 1 + 1 + 1 + 1, 0, none⟩) 1 1] 28 ∧ Box W (w.heap.size + 1) #[.int .i64 (0), .int .i64 (0)] 30 ∧
    Box W (w.heap.size + 1 + 1) #[.int .i64 0, .int .i64 0, .slice (some ⟨w.heap.size + 1, 0, none⟩) 1 1] 153 ∧ Box W (w.heap.size + 1 + 1 + 1) #[.int .i64 (1), .int .i64 (0), .int .i64 (0)] 116 ∧ Box W (w.heap.size + 1 + 1 + 1 + 1) #[.int .i64 (1), .int .i64 (0), .int .i64 (0)] 120) ⟨(by repeat (first | with_reducible exact Up.refl _ | with_reducible apply Up.plus | apply Up.ext | apply Up.alloc | apply Up.drew | (refine Up.setCell ?_ (by simp; try omega) _))), (by repeat (first | exact Box.mk rfl | (refine Box.mk ?_; simp; done) | apply Box.ext | apply Box.drew | apply Box.alloc | apply Box.two1 | (refine Box.other ?_ (by omega) _ _))), (by repeat (first | exact Box.mk rfl | (refine Box.mk ?_; simp; done) | apply Box.ext | apply Box.drew | apply Box.alloc | apply Box.two1 | (refine Box.other ?_ (by omega) _ _))), (by repeat (first | exact Box.mk rfl | (refine Box.mk ?_; simp; done) | apply Box.ext | apply Box.drew | apply Box.alloc | apply Box.two1 | (refine Box.other ?_ (by omega) _ _))), (by repeat (first | exact Box.mk rfl | (refine Box.mk ?_; simp; done) | apply Box.ext | apply Box.drew | apply Box.alloc | apply Box.two1 | (refine Box.other ?_ (by omega) _ _))), (by repeat (first | exact Box.mk rfl | (refine Box.mk ?_; simp; done) | apply Box.ext | apply Box.drew | apply Box.alloc | apply Box.two1 | (refine Box.other ?_ (by omega) _ _)))⟩ ?_
  rintro W ⟨⟨p, hp⟩, b0, b1, b2, b3, b4⟩
  have c0 := b0.cell 0 rfl
  have c1 := b0.cell 1 rfl
  have c2 := b0.cell 2 rfl
  have c3 := b0.cell 3 rfl
  refine bodyPost_ret (v := .agg #[.slice (some ⟨w.heap.size + 1 + 1, 0, none⟩) 1 1, .int .i64 0, .slice (some ⟨w.heap.size + 1 + 1 + 1, 0, none⟩) 1 1, .slice (some ⟨w.heap.size + 1 + 1 + 1 + 1, 0, none⟩) 1 1]) (by simp [results, Tryz.results43, go_sem, c0, c1, c2, c3]) rfl ⟨_, _, _, _, _, _, _, _, _, p, rfl, ?_, hp⟩
  have i0 : I64 0 := ⟨by decide, by decide⟩
  have i1 : I64 1 := ⟨by decide, by decide⟩
  have v1 : Vecs (fun b => w.heap.size ≤ b) W (.slice (some ⟨w.heap.size + 1, 0, none⟩) 1 1) [(0, 0)] := Vecs.ofB (K := fun b => w.heap.size ≤ b) (l := [(0, 0)]) b1 (by show _ ≤ _; omega) rfl (by decide) (fun i q hq => by
    match i, hq with
    | 0, hq => cases hq; exact ⟨rfl, rfl, i0, i0⟩) 1
  exact ⟨Bods.ofB (K := fun b => w.heap.size ≤ b) (l := [⟨0, 0, [(0, 0)]⟩]) b2 (by show _ ≤ _; omega) rfl (by decide) (fun i q hq => by
      match i, hq with
      | 0, hq => cases hq; exact ⟨_, rfl, rfl, rfl, i0, i0, v1⟩) 1, i0,
    Tris.ofB (K := fun b => w.heap.size ≤ b) (l := [(1, 0, 0)]) b3 (by show _ ≤ _; omega) rfl (by decide) (fun i q hq => by
      match i, hq with
      | 0, hq => cases hq; exact ⟨rfl, rfl, rfl, i1, i0, i0⟩) 1,
    Tris.ofB (K := fun b => w.heap.size ≤ b) (l := [(1, 0, 0)]) b4 (by show _ ≤ _; omega) rfl (by decide) (fun i q hq => by
      match i, hq with
      | 0, hq => cases hq; exact ⟨rfl, rfl, rfl, i1, i0, i0⟩) 1⟩
theorem radar6_any (w : World) : Gives Tryz.prog 44 #[] w (.agg (offA radarO)) := by
  (unfold Gives; go_enter Tryz.func44, Tryz.ntmps44)
  go_wp2
  all_goals (refine bodyPost_give (by repeat (first | with_reducible exact Up.refl _ | with_reducible apply Up.plus | apply Up.ext | apply Up.alloc | apply Up.drew | (refine Up.setCell ?_ (by simp; try omega) _))) rfl ⟨_, (by simp [results, Tryz.results44, go_sem]; rfl), ?_⟩)
  all_goals rfl
theorem scope6_any (w : World) : Gives Tryz.prog 45 #[] w (.agg (offA scopeO)) := by
  (unfold Gives; go_enter Tryz.func45, Tryz.ntmps45)
  go_wp2
  all_goals (refine bodyPost_give (by repeat (first | with_reducible exact Up.refl _ | with_reducible apply Up.plus | apply Up.ext | apply Up.alloc | apply Up.drew | (refine Up.setCell ?_ (by simp; try omega) _))) rfl ⟨_, (by simp [results, Tryz.results45, go_sem]; rfl), ?_⟩)
  all_goals rfl
theorem awake6_view : viewV shownS scopeO (100, 200, 10, 20) = ((true, true, 49000, 201000), 0) := by decide +kernel
theorem awake6_reads : readsV shownS radarO (60, 80) = ((98, 102), true) := by decide +kernel
set_option maxRecDepth 100000 in
set_option maxHeartbeats 2000000 in
theorem awake6_any (w : World) : Gives Tryz.prog 13 #[] w (.bool true) := by
  have H1 : ∀ (K : Nat → Prop) (W0 W : World) (a : Option Addr) (n c : Nat) (sa : Option Addr) (sn sc : Nat) (ca : Option Addr) (cn cc : Nat), SkyL K W0 a n c sa sn sc ca cn cc shownS → Up W0 W →
      Gives Tryz.prog 22 #[.agg #[.slice a n c, .int .i64 0, .slice sa sn sc, .slice ca cn cc], .agg (offA scopeO), .agg #[.int .i64 (100), .int .i64 (200), .int .i64 (10), .int .i64 (20)]] W (.tuple #[.agg #[.bool true, .bool true, .int .i64 49000, .int .i64 201000], .int .i64 0]) := fun K W0 W a n c sa sn sc ca cn cc h hu => by
    have := wView_any (h.up hu) scopeO (100, 200, 10, 20)
    rw [awake6_view] at this
    exact this
  have H2 : ∀ (K : Nat → Prop) (W0 W : World) (a : Option Addr) (n c : Nat) (sa : Option Addr) (sn sc : Nat) (ca : Option Addr) (cn cc : Nat), SkyL K W0 a n c sa sn sc ca cn cc shownS → Up W0 W →
      Gives Tryz.prog 14 #[.agg #[.slice a n c, .int .i64 0, .slice sa sn sc, .slice ca cn cc], .agg (offA radarO), .agg #[.int .i64 (60), .int .i64 (80)]] W (.tuple #[.agg #[.int .i64 (98), .int .i64 (102)], .bool true]) := fun K W0 W a n c sa sn sc ca cn cc h hu => by
    have := wReads_any (h.up hu) radarO (60, 80)
    rw [awake6_reads] at this
    exact this
  have K1 := hide H1
  have K2 := hide H2
  clear H1 H2
  (unfold Gives; go_enter Tryz.func13, Tryz.ntmps13)
  go_wp2_with (first | (go_at_call 43; refine (shown6_any _).mono ?_; rintro _ _ ⟨a, n, c, sa, sn, sc, ca, cn, cc, px, rfl, hb, rfl⟩) | (go_at_call 45; refine (scope6_any _).mono ?_; intro _) | (go_at_call 44; refine (radar6_any _).mono ?_; intro _) | (go_at_call 46; refine (xarea6_any _ _ _ _ _).mono ?_; intro _) | (go_at_call 22; refine (K1.out _ _ _ _ _ _ _ _ _ _ _ _ (by assumption) (by repeat (first | with_reducible exact Up.refl _ | with_reducible apply Up.plus | apply Up.ext | apply Up.alloc | apply Up.drew | (refine Up.setCell ?_ (by simp; try omega) _)))).mono ?_; intro _) | (go_at_call 14; refine (K2.out _ _ _ _ _ _ _ _ _ _ _ _ (by assumption) (by repeat (first | with_reducible exact Up.refl _ | with_reducible apply Up.plus | apply Up.ext | apply Up.alloc | apply Up.drew | (refine Up.setCell ?_ (by simp; try omega) _)))).mono ?_; intro _))
  go_ret
  exact ⟨rfl, (by repeat (first | with_reducible exact Up.refl _ | with_reducible apply Up.plus | apply Up.ext | apply Up.alloc | apply Up.drew | (refine Up.setCell ?_ (by simp; try omega) _)))⟩
end Go.Proofs.YtnaiaodnnmhdkaaGreat

