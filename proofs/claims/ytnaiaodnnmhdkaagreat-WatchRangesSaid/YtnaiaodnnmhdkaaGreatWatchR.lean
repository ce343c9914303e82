/- Package watch: whether a place agrees with a reading. Conditions: what lies in memory. -/
import Derived.Test.YtnaiaodnnmhdkaaGreatWatchO
namespace Go.Proofs.YtnaiaodnnmhdkaaGreat
set_option linter.unusedVariables false
set_option linter.unusedSimpArgs false
open Go.RowKit Go.Shelf

set_option maxRecDepth 100000 in
set_option maxHeartbeats 4000000 in
theorem wAgrees_any {K : Nat → Prop} {w : World} {a sa ca : Option Addr} {n c sn sc cn cc : Nat} {s : SkyD} (hL : SkyL K w a n c sa sn sc ca cn cc s) (o : OffD) (i v : Int) (p : Int × Int) : Gives Tryz.prog 20 #[.agg #[.slice a n c, .int .i64 s.home, .slice sa sn sc, .slice ca cn cc], .agg (offA o), .agg #[.int .i64 (i), .int .i64 (v)], .agg #[.int .i64 (p.1), .int .i64 (p.2)]] w (.bool (agreesV s o i v p)) := by
  have HC := hide (fun W (hu : Up w W) => wcheck_any (hL.up hu).b hL.h (hL.up hu).st (hL.up hu).ca o)
  have HP := hide (fun W => wplace_any p.1 p.2 W)
  unfold agreesV
  by_cases he : offE s o = 0
  rotate_left
  · rw [if_neg (by simp [he])]
    have heb : (offE s o != 0) = true := by simpa using he
    generalize offE s o = e at *
    generalize s.home = home at *
    clear hL he HP
    obtain ⟨p1, p2⟩ := p
    dsimp only
    (unfold Gives; go_enter Tryz.func20, Tryz.ntmps20)
    go_wp2_with fail
    go_at_call 16
    refine forgetK (fun V => Up w V ∧ Box V w.heap.size #[.slice a n c, .int .i64 home, .slice sa sn sc, .slice ca cn cc] 28 ∧ Box V (w.heap.size + 1) (offA o) 32 ∧ Box V (w.heap.size + 1 + 1) #[.int .i64 (i), .int .i64 (v)] 34 ∧ Box V (w.heap.size + 1 + 1 + 1) #[.int .i64 (p1), .int .i64 (p2)] 30) ⟨(by repeat (first | with_reducible exact Up.refl _ | with_reducible apply Up.plus | apply Up.ext | apply Up.alloc | apply Up.drew | (refine Up.setCell ?_ (by simp; try omega) _))), (by repeat (first | exact Box.mk rfl | (refine Box.mk ?_; simp; done) | apply Box.ext | apply Box.drew | apply Box.alloc | apply Box.two1 | (refine Box.other ?_ (by omega) _ _))), (by repeat (first | exact Box.mk rfl | (refine Box.mk ?_; simp; done) | apply Box.ext | apply Box.drew | apply Box.alloc | apply Box.two1 | (refine Box.other ?_ (by omega) _ _))), (by repeat (first | exact Box.mk rfl | (refine Box.mk ?_; simp; done) | apply Box.ext | apply Box.drew | apply Box.alloc | apply Box.two1 | (refine Box.other ?_ (by omega) _ _))), (by repeat (first | exact Box.mk rfl | (refine Box.mk ?_; simp; done) | apply Box.ext | apply Box.drew | apply Box.alloc | apply Box.two1 | (refine Box.other ?_ (by omega) _ _)))⟩ ?_
    rintro V ⟨hu, bs, bo, br, bp⟩
    have HB := hide hu
    clear hu
    refine (HC.out _ HB.out).mono ?_
    intro q1
    have s0 := bs.cell 0 rfl
    have s1 := bs.cell 1 rfl
    have s2 := bs.cell 2 rfl
    have s3 := bs.cell 3 rfl
    have ls := bs.lt
    have f0 := bo.cell 0 rfl
    have f1 := bo.cell 1 rfl
    have f2 := bo.cell 2 rfl
    have f3 := bo.cell 3 rfl
    have f4 := bo.cell 4 rfl
    have f5 := bo.cell 5 rfl
    have f6 := bo.cell 6 rfl
    have f7 := bo.cell 7 rfl
    have f8 := bo.cell 8 rfl
    have f9 := bo.cell 9 rfl
    have f10 := bo.cell 10 rfl
    have lf := bo.lt
    have r0 := br.cell 0 rfl
    have r1 := br.cell 1 rfl
    have lr := br.lt
    have g0 := bp.cell 0 rfl
    have g1 := bp.cell 1 rfl
    have lg := bp.lt
    clear bs bo br bp
    go_wp2_with fail
    go_ret
    exact ⟨rfl, (by repeat (first | with_reducible exact HB.out | with_reducible exact Up.refl _ | apply Up.ext | apply Up.alloc | apply Up.drew | (refine Up.setCell ?_ (by simp [World.setCell]; try omega) _)))⟩
  have HO := hide (fun W (hu : Up w W) => wof_any (hL.up hu).b hL.h (hL.up hu).st (hL.up hu).ca he)
  have hk := kbd_of he
  rw [he] at HC
  have hp : nearV 33554432 (p.1, p.2) = true → PBd p := fun h => (nearV_iff _ _).1 h
  rw [show nearV 33554432 p = nearV 33554432 (p.1, p.2) from rfl]
  by_cases hN : nearV 33554432 (p.1, p.2) = true
  rotate_left
  · rw [if_neg (by simp [hN])]
    rw [show nearV 33554432 (p.1, p.2) = false by simpa using hN] at HP
    generalize s.home = home at *
    clear hL he hk hp hN HO
    obtain ⟨p1, p2⟩ := p
    dsimp only at *
    (unfold Gives; go_enter Tryz.func20, Tryz.ntmps20)
    go_wp2_with fail
    go_at_call 16
    refine forgetK (fun V => Up w V ∧ Box V w.heap.size #[.slice a n c, .int .i64 home, .slice sa sn sc, .slice ca cn cc] 28 ∧ Box V (w.heap.size + 1) (offA o) 32 ∧ Box V (w.heap.size + 1 + 1) #[.int .i64 (i), .int .i64 (v)] 34 ∧ Box V (w.heap.size + 1 + 1 + 1) #[.int .i64 (p1), .int .i64 (p2)] 30) ⟨(by repeat (first | with_reducible exact Up.refl _ | with_reducible apply Up.plus | apply Up.ext | apply Up.alloc | apply Up.drew | (refine Up.setCell ?_ (by simp; try omega) _))), (by repeat (first | exact Box.mk rfl | (refine Box.mk ?_; simp; done) | apply Box.ext | apply Box.drew | apply Box.alloc | apply Box.two1 | (refine Box.other ?_ (by omega) _ _))), (by repeat (first | exact Box.mk rfl | (refine Box.mk ?_; simp; done) | apply Box.ext | apply Box.drew | apply Box.alloc | apply Box.two1 | (refine Box.other ?_ (by omega) _ _))), (by repeat (first | exact Box.mk rfl | (refine Box.mk ?_; simp; done) | apply Box.ext | apply Box.drew | apply Box.alloc | apply Box.two1 | (refine Box.other ?_ (by omega) _ _))), (by repeat (first | exact Box.mk rfl | (refine Box.mk ?_; simp; done) | apply Box.ext | apply Box.drew | apply Box.alloc | apply Box.two1 | (refine Box.other ?_ (by omega) _ _)))⟩ ?_
    rintro V ⟨hu, bs, bo, br, bp⟩
    have HB := hide hu
    clear hu
    refine (HC.out _ HB.out).mono ?_
    intro q1
    have s0 := bs.cell 0 rfl
    have s1 := bs.cell 1 rfl
    have s2 := bs.cell 2 rfl
    have s3 := bs.cell 3 rfl
    have ls := bs.lt
    have f0 := bo.cell 0 rfl
    have f1 := bo.cell 1 rfl
    have f2 := bo.cell 2 rfl
    have f3 := bo.cell 3 rfl
    have f4 := bo.cell 4 rfl
    have f5 := bo.cell 5 rfl
    have f6 := bo.cell 6 rfl
    have f7 := bo.cell 7 rfl
    have f8 := bo.cell 8 rfl
    have f9 := bo.cell 9 rfl
    have f10 := bo.cell 10 rfl
    have lf := bo.lt
    have r0 := br.cell 0 rfl
    have r1 := br.cell 1 rfl
    have lr := br.lt
    have g0 := bp.cell 0 rfl
    have g1 := bp.cell 1 rfl
    have lg := bp.lt
    clear bs bo br bp
    go_wp2_with (first | (go_at_call 68; refine (HP.out _).mono ?_; intro _))
    go_ret
    exact ⟨rfl, (by repeat (first | with_reducible exact HB.out | with_reducible exact Up.refl _ | apply Up.ext | apply Up.alloc | apply Up.drew | (refine Up.setCell ?_ (by simp [World.setCell]; try omega) _)))⟩
  have hpb := hp hN
  rw [hN] at HP
  rw [if_pos ⟨he, hN⟩]
  generalize kndOf s o = k at *
  by_cases hi : i ≠ 1 ∧ i ≠ 2
  · generalize kndV k = KV at *
    rw [if_neg hi.1, if_neg hi.2]
    have i1 : (i == 1) = false := by simpa using hi.1
    have i2 : (i == 2) = false := by simpa using hi.2
    generalize s.home = home at *
    clear hL he hp hN hk hpb hi
    obtain ⟨p1, p2⟩ := p
    dsimp only at *
    have key : ∀ b : Bool, (i == 0) = b → Gives Tryz.prog 20 #[.agg #[.slice a n c, .int .i64 home, .slice sa sn sc, .slice ca cn cc], .agg (offA o), .agg #[.int .i64 (i), .int .i64 (v)], .agg #[.int .i64 (p1), .int .i64 (p2)]] w (.bool b) := fun b hb => by
      cases b
      all_goals
        (unfold Gives; go_enter Tryz.func20, Tryz.ntmps20)
        go_wp2_with fail
        go_at_call 16
        refine forgetK (fun V => Up w V ∧ Box V w.heap.size #[.slice a n c, .int .i64 home, .slice sa sn sc, .slice ca cn cc] 28 ∧ Box V (w.heap.size + 1) (offA o) 32 ∧ Box V (w.heap.size + 1 + 1) #[.int .i64 (i), .int .i64 (v)] 34 ∧ Box V (w.heap.size + 1 + 1 + 1) #[.int .i64 (p1), .int .i64 (p2)] 30) ⟨(by repeat (first | with_reducible exact Up.refl _ | with_reducible apply Up.plus | apply Up.ext | apply Up.alloc | apply Up.drew | (refine Up.setCell ?_ (by simp; try omega) _))), (by repeat (first | exact Box.mk rfl | (refine Box.mk ?_; simp; done) | apply Box.ext | apply Box.drew | apply Box.alloc | apply Box.two1 | (refine Box.other ?_ (by omega) _ _))), (by repeat (first | exact Box.mk rfl | (refine Box.mk ?_; simp; done) | apply Box.ext | apply Box.drew | apply Box.alloc | apply Box.two1 | (refine Box.other ?_ (by omega) _ _))), (by repeat (first | exact Box.mk rfl | (refine Box.mk ?_; simp; done) | apply Box.ext | apply Box.drew | apply Box.alloc | apply Box.two1 | (refine Box.other ?_ (by omega) _ _))), (by repeat (first | exact Box.mk rfl | (refine Box.mk ?_; simp; done) | apply Box.ext | apply Box.drew | apply Box.alloc | apply Box.two1 | (refine Box.other ?_ (by omega) _ _)))⟩ ?_
        rintro V ⟨hu, bs, bo, br, bp⟩
        have HB := hide hu
        clear hu
        refine (HC.out _ HB.out).mono ?_
        intro q1
        have s0 := bs.cell 0 rfl
        have s1 := bs.cell 1 rfl
        have s2 := bs.cell 2 rfl
        have s3 := bs.cell 3 rfl
        have ls := bs.lt
        have f0 := bo.cell 0 rfl
        have f1 := bo.cell 1 rfl
        have f2 := bo.cell 2 rfl
        have f3 := bo.cell 3 rfl
        have f4 := bo.cell 4 rfl
        have f5 := bo.cell 5 rfl
        have f6 := bo.cell 6 rfl
        have f7 := bo.cell 7 rfl
        have f8 := bo.cell 8 rfl
        have f9 := bo.cell 9 rfl
        have f10 := bo.cell 10 rfl
        have lf := bo.lt
        have r0 := br.cell 0 rfl
        have r1 := br.cell 1 rfl
        have lr := br.lt
        have g0 := bp.cell 0 rfl
        have g1 := bp.cell 1 rfl
        have lg := bp.lt
        clear bs bo br bp
        go_wp2_with (first | (go_at_call 68; refine (HP.out _).mono ?_; intro _) | (go_at_call 58; refine (HO.out _ (by repeat (first | with_reducible exact HB.out | with_reducible exact Up.refl _ | with_reducible apply Up.ext | with_reducible apply Up.alloc | with_reducible apply Up.drew | (with_reducible refine Up.setCell ?_ (by simp only; omega) _)))).mono ?_; intro _))
        go_ret
        exact ⟨rfl, (by repeat (first | with_reducible exact HB.out | with_reducible exact Up.refl _ | apply Up.ext | apply Up.alloc | apply Up.drew | (refine Up.setCell ?_ (by simp [World.setCell]; try omega) _)))⟩
    by_cases h0 : i = 0
    · rw [if_pos h0]; exact key true (by simp [h0])
    · rw [if_neg h0]; exact key false (by simp [h0])
  have hi0 : ¬ i = 0 := by omega
  rw [if_neg hi0]
  have i0 : (i == 0) = false := by simpa using hi0
  unfold kndV at HO
  cases hs : k.sc
  · rw [if_neg (by simp [hs])] at HO
    have HF := hide (fun W => wrfield_any hk hpb hs W)
    have HR := hide (fun (hf : fieldK k p = true) W => wrreads_any hk hpb hs W)
    have HW := hide (fun W => wwithin_any v (readsK k p).1 (readsK k p).2 W)
    have hmf := fun (n : Nat) (w : World) => (meth_r k n w).2.1
    have hmr := fun (n : Nat) (w : World) => (meth_r k n w).2.2.2
    simp only [mField, mReads, theName] at hmf hmr
    generalize readsK k p = R at *
    obtain ⟨R1, R2⟩ := R
    dsimp only at *
    generalize withinB v R1 R2 = b at *
    generalize fieldK k p = F at *
    generalize s.home = home at *
    clear hL he hp hN hk hpb hs
    obtain ⟨p1, p2⟩ := p
    dsimp only at *
    by_cases h1 : i = 1
    · have i1 : (i == 1) = true := by simpa using h1
      rw [if_pos h1]
      clear HR HW hmr hi hi0 h1
      (unfold Gives; go_enter Tryz.func20, Tryz.ntmps20)
      go_wp2_with fail
      go_at_call 16
      refine forgetK (fun V => Up w V ∧ Box V w.heap.size #[.slice a n c, .int .i64 home, .slice sa sn sc, .slice ca cn cc] 28 ∧ Box V (w.heap.size + 1) (offA o) 32 ∧ Box V (w.heap.size + 1 + 1) #[.int .i64 (i), .int .i64 (v)] 34 ∧ Box V (w.heap.size + 1 + 1 + 1) #[.int .i64 (p1), .int .i64 (p2)] 30) ⟨(by repeat (first | with_reducible exact Up.refl _ | with_reducible apply Up.plus | apply Up.ext | apply Up.alloc | apply Up.drew | (refine Up.setCell ?_ (by simp; try omega) _))), (by repeat (first | exact Box.mk rfl | (refine Box.mk ?_; simp; done) | apply Box.ext | apply Box.drew | apply Box.alloc | apply Box.two1 | (refine Box.other ?_ (by omega) _ _))), (by repeat (first | exact Box.mk rfl | (refine Box.mk ?_; simp; done) | apply Box.ext | apply Box.drew | apply Box.alloc | apply Box.two1 | (refine Box.other ?_ (by omega) _ _))), (by repeat (first | exact Box.mk rfl | (refine Box.mk ?_; simp; done) | apply Box.ext | apply Box.drew | apply Box.alloc | apply Box.two1 | (refine Box.other ?_ (by omega) _ _))), (by repeat (first | exact Box.mk rfl | (refine Box.mk ?_; simp; done) | apply Box.ext | apply Box.drew | apply Box.alloc | apply Box.two1 | (refine Box.other ?_ (by omega) _ _)))⟩ ?_
      rintro V ⟨hu, bs, bo, br, bp⟩
      have HB := hide hu
      clear hu
      refine (HC.out _ HB.out).mono ?_
      intro q1
      have s0 := bs.cell 0 rfl
      have s1 := bs.cell 1 rfl
      have s2 := bs.cell 2 rfl
      have s3 := bs.cell 3 rfl
      have ls := bs.lt
      have f0 := bo.cell 0 rfl
      have f1 := bo.cell 1 rfl
      have f2 := bo.cell 2 rfl
      have f3 := bo.cell 3 rfl
      have f4 := bo.cell 4 rfl
      have f5 := bo.cell 5 rfl
      have f6 := bo.cell 6 rfl
      have f7 := bo.cell 7 rfl
      have f8 := bo.cell 8 rfl
      have f9 := bo.cell 9 rfl
      have f10 := bo.cell 10 rfl
      have lf := bo.lt
      have r0 := br.cell 0 rfl
      have r1 := br.cell 1 rfl
      have lr := br.lt
      have g0 := bp.cell 0 rfl
      have g1 := bp.cell 1 rfl
      have lg := bp.lt
      clear bs bo br bp
      go_wp2_with (first | (go_at_call 68; refine (HP.out _).mono ?_; intro _) | (go_at_call 58; refine (HO.out _ (by repeat (first | with_reducible exact HB.out | with_reducible exact Up.refl _ | with_reducible apply Up.ext | with_reducible apply Up.alloc | with_reducible apply Up.drew | (with_reducible refine Up.setCell ?_ (by simp only; omega) _)))).mono ?_; intro _) | (go_at_call 309; refine (HF.out _).mono ?_; intro _))
      go_ret
      exact ⟨rfl, (by repeat (first | with_reducible exact HB.out | with_reducible exact Up.refl _ | apply Up.ext | apply Up.alloc | apply Up.drew | (refine Up.setCell ?_ (by simp [World.setCell]; try omega) _)))⟩
    · have h2 : i = 2 := by omega
      have i1 : (i == 1) = false := by simpa using h1
      have i2 : (i == 2) = true := by simpa using h2
      rw [if_neg h1, if_pos h2]
      clear hi h1 hi0 h2
      cases F
      · clear HR HW hmr
        rw [Bool.false_and]
        (unfold Gives; go_enter Tryz.func20, Tryz.ntmps20)
        go_wp2_with fail
        go_at_call 16
        refine forgetK (fun V => Up w V ∧ Box V w.heap.size #[.slice a n c, .int .i64 home, .slice sa sn sc, .slice ca cn cc] 28 ∧ Box V (w.heap.size + 1) (offA o) 32 ∧ Box V (w.heap.size + 1 + 1) #[.int .i64 (i), .int .i64 (v)] 34 ∧ Box V (w.heap.size + 1 + 1 + 1) #[.int .i64 (p1), .int .i64 (p2)] 30) ⟨(by repeat (first | with_reducible exact Up.refl _ | with_reducible apply Up.plus | apply Up.ext | apply Up.alloc | apply Up.drew | (refine Up.setCell ?_ (by simp; try omega) _))), (by repeat (first | exact Box.mk rfl | (refine Box.mk ?_; simp; done) | apply Box.ext | apply Box.drew | apply Box.alloc | apply Box.two1 | (refine Box.other ?_ (by omega) _ _))), (by repeat (first | exact Box.mk rfl | (refine Box.mk ?_; simp; done) | apply Box.ext | apply Box.drew | apply Box.alloc | apply Box.two1 | (refine Box.other ?_ (by omega) _ _))), (by repeat (first | exact Box.mk rfl | (refine Box.mk ?_; simp; done) | apply Box.ext | apply Box.drew | apply Box.alloc | apply Box.two1 | (refine Box.other ?_ (by omega) _ _))), (by repeat (first | exact Box.mk rfl | (refine Box.mk ?_; simp; done) | apply Box.ext | apply Box.drew | apply Box.alloc | apply Box.two1 | (refine Box.other ?_ (by omega) _ _)))⟩ ?_
        rintro V ⟨hu, bs, bo, br, bp⟩
        have HB := hide hu
        clear hu
        refine (HC.out _ HB.out).mono ?_
        intro q1
        have s0 := bs.cell 0 rfl
        have s1 := bs.cell 1 rfl
        have s2 := bs.cell 2 rfl
        have s3 := bs.cell 3 rfl
        have ls := bs.lt
        have f0 := bo.cell 0 rfl
        have f1 := bo.cell 1 rfl
        have f2 := bo.cell 2 rfl
        have f3 := bo.cell 3 rfl
        have f4 := bo.cell 4 rfl
        have f5 := bo.cell 5 rfl
        have f6 := bo.cell 6 rfl
        have f7 := bo.cell 7 rfl
        have f8 := bo.cell 8 rfl
        have f9 := bo.cell 9 rfl
        have f10 := bo.cell 10 rfl
        have lf := bo.lt
        have r0 := br.cell 0 rfl
        have r1 := br.cell 1 rfl
        have lr := br.lt
        have g0 := bp.cell 0 rfl
        have g1 := bp.cell 1 rfl
        have lg := bp.lt
        clear bs bo br bp
        go_wp2_with (first | (go_at_call 68; refine (HP.out _).mono ?_; intro _) | (go_at_call 58; refine (HO.out _ (by repeat (first | with_reducible exact HB.out | with_reducible exact Up.refl _ | with_reducible apply Up.ext | with_reducible apply Up.alloc | with_reducible apply Up.drew | (with_reducible refine Up.setCell ?_ (by simp only; omega) _)))).mono ?_; intro _) | (go_at_call 309; refine (HF.out _).mono ?_; intro _))
        go_ret
        exact ⟨rfl, (by repeat (first | with_reducible exact HB.out | with_reducible exact Up.refl _ | apply Up.ext | apply Up.alloc | apply Up.drew | (refine Up.setCell ?_ (by simp [World.setCell]; try omega) _)))⟩
      · rw [Bool.true_and]
        replace HR := hide (HR.out rfl)
        (unfold Gives; go_enter Tryz.func20, Tryz.ntmps20)
        go_wp2_with fail
        go_at_call 16
        refine forgetK (fun V => Up w V ∧ Box V w.heap.size #[.slice a n c, .int .i64 home, .slice sa sn sc, .slice ca cn cc] 28 ∧ Box V (w.heap.size + 1) (offA o) 32 ∧ Box V (w.heap.size + 1 + 1) #[.int .i64 (i), .int .i64 (v)] 34 ∧ Box V (w.heap.size + 1 + 1 + 1) #[.int .i64 (p1), .int .i64 (p2)] 30) ⟨(by repeat (first | with_reducible exact Up.refl _ | with_reducible apply Up.plus | apply Up.ext | apply Up.alloc | apply Up.drew | (refine Up.setCell ?_ (by simp; try omega) _))), (by repeat (first | exact Box.mk rfl | (refine Box.mk ?_; simp; done) | apply Box.ext | apply Box.drew | apply Box.alloc | apply Box.two1 | (refine Box.other ?_ (by omega) _ _))), (by repeat (first | exact Box.mk rfl | (refine Box.mk ?_; simp; done) | apply Box.ext | apply Box.drew | apply Box.alloc | apply Box.two1 | (refine Box.other ?_ (by omega) _ _))), (by repeat (first | exact Box.mk rfl | (refine Box.mk ?_; simp; done) | apply Box.ext | apply Box.drew | apply Box.alloc | apply Box.two1 | (refine Box.other ?_ (by omega) _ _))), (by repeat (first | exact Box.mk rfl | (refine Box.mk ?_; simp; done) | apply Box.ext | apply Box.drew | apply Box.alloc | apply Box.two1 | (refine Box.other ?_ (by omega) _ _)))⟩ ?_
        rintro V ⟨hu, bs, bo, br, bp⟩
        have HB := hide hu
        clear hu
        refine (HC.out _ HB.out).mono ?_
        intro q1
        have s0 := bs.cell 0 rfl
        have s1 := bs.cell 1 rfl
        have s2 := bs.cell 2 rfl
        have s3 := bs.cell 3 rfl
        have ls := bs.lt
        have f0 := bo.cell 0 rfl
        have f1 := bo.cell 1 rfl
        have f2 := bo.cell 2 rfl
        have f3 := bo.cell 3 rfl
        have f4 := bo.cell 4 rfl
        have f5 := bo.cell 5 rfl
        have f6 := bo.cell 6 rfl
        have f7 := bo.cell 7 rfl
        have f8 := bo.cell 8 rfl
        have f9 := bo.cell 9 rfl
        have f10 := bo.cell 10 rfl
        have lf := bo.lt
        have r0 := br.cell 0 rfl
        have r1 := br.cell 1 rfl
        have lr := br.lt
        have g0 := bp.cell 0 rfl
        have g1 := bp.cell 1 rfl
        have lg := bp.lt
        clear bs bo br bp
        go_wp2_with (first | (go_at_call 68; refine (HP.out _).mono ?_; intro _) | (go_at_call 58; refine (HO.out _ (by repeat (first | with_reducible exact HB.out | with_reducible exact Up.refl _ | with_reducible apply Up.ext | with_reducible apply Up.alloc | with_reducible apply Up.drew | (with_reducible refine Up.setCell ?_ (by simp only; omega) _)))).mono ?_; intro _) | (go_at_call 309; refine (HF.out _).mono ?_; intro _) | (go_at_call 311; refine (HR.out _).mono ?_; intro _) | (go_at_call 61; refine (HW.out _).mono ?_; intro _))
        go_ret
        exact ⟨rfl, (by repeat (first | with_reducible exact HB.out | with_reducible exact Up.refl _ | apply Up.ext | apply Up.alloc | apply Up.drew | (refine Up.setCell ?_ (by simp [World.setCell]; try omega) _)))⟩
  · rw [if_pos (by simp [hs])] at HO
    have HF := hide (fun W => wsfield_any hk hpb hs W)
    have HR := hide (fun (hf : fieldK k p = true) W => wsreads_any hk hpb hs (field_front hf hs) W)
    have HW := hide (fun W => wwithin_any v (readsK k p).1 (readsK k p).2 W)
    have hmf := fun (n : Nat) (w : World) => (meth_s k n w).2.1
    have hmr := fun (n : Nat) (w : World) => (meth_s k n w).2.2.2
    simp only [mField, mReads, theName] at hmf hmr
    generalize readsK k p = R at *
    obtain ⟨R1, R2⟩ := R
    dsimp only at *
    generalize withinB v R1 R2 = b at *
    generalize fieldK k p = F at *
    generalize s.home = home at *
    clear hL he hp hN hk hpb hs
    obtain ⟨p1, p2⟩ := p
    dsimp only at *
    by_cases h1 : i = 1
    · have i1 : (i == 1) = true := by simpa using h1
      rw [if_pos h1]
      clear HR HW hmr hi hi0 h1
      (unfold Gives; go_enter Tryz.func20, Tryz.ntmps20)
      go_wp2_with fail
      go_at_call 16
      refine forgetK (fun V => Up w V ∧ Box V w.heap.size #[.slice a n c, .int .i64 home, .slice sa sn sc, .slice ca cn cc] 28 ∧ Box V (w.heap.size + 1) (offA o) 32 ∧ Box V (w.heap.size + 1 + 1) #[.int .i64 (i), .int .i64 (v)] 34 ∧ Box V (w.heap.size + 1 + 1 + 1) #[.int .i64 (p1), .int .i64 (p2)] 30) ⟨(by repeat (first | with_reducible exact Up.refl _ | with_reducible apply Up.plus | apply Up.ext | apply Up.alloc | apply Up.drew | (refine Up.setCell ?_ (by simp; try omega) _))), (by repeat (first | exact Box.mk rfl | (refine Box.mk ?_; simp; done) | apply Box.ext | apply Box.drew | apply Box.alloc | apply Box.two1 | (refine Box.other ?_ (by omega) _ _))), (by repeat (first | exact Box.mk rfl | (refine Box.mk ?_; simp; done) | apply Box.ext | apply Box.drew | apply Box.alloc | apply Box.two1 | (refine Box.other ?_ (by omega) _ _))), (by repeat (first | exact Box.mk rfl | (refine Box.mk ?_; simp; done) | apply Box.ext | apply Box.drew | apply Box.alloc | apply Box.two1 | (refine Box.other ?_ (by omega) _ _))), (by repeat (first | exact Box.mk rfl | (refine Box.mk ?_; simp; done) | apply Box.ext | apply Box.drew | apply Box.alloc | apply Box.two1 | (refine Box.other ?_ (by omega) _ _)))⟩ ?_
      rintro V ⟨hu, bs, bo, br, bp⟩
      have HB := hide hu
      clear hu
      refine (HC.out _ HB.out).mono ?_
      intro q1
      have s0 := bs.cell 0 rfl
      have s1 := bs.cell 1 rfl
      have s2 := bs.cell 2 rfl
      have s3 := bs.cell 3 rfl
      have ls := bs.lt
      have f0 := bo.cell 0 rfl
      have f1 := bo.cell 1 rfl
      have f2 := bo.cell 2 rfl
      have f3 := bo.cell 3 rfl
      have f4 := bo.cell 4 rfl
      have f5 := bo.cell 5 rfl
      have f6 := bo.cell 6 rfl
      have f7 := bo.cell 7 rfl
      have f8 := bo.cell 8 rfl
      have f9 := bo.cell 9 rfl
      have f10 := bo.cell 10 rfl
      have lf := bo.lt
      have r0 := br.cell 0 rfl
      have r1 := br.cell 1 rfl
      have lr := br.lt
      have g0 := bp.cell 0 rfl
      have g1 := bp.cell 1 rfl
      have lg := bp.lt
      clear bs bo br bp
      go_wp2_with (first | (go_at_call 68; refine (HP.out _).mono ?_; intro _) | (go_at_call 58; refine (HO.out _ (by repeat (first | with_reducible exact HB.out | with_reducible exact Up.refl _ | with_reducible apply Up.ext | with_reducible apply Up.alloc | with_reducible apply Up.drew | (with_reducible refine Up.setCell ?_ (by simp only; omega) _)))).mono ?_; intro _) | (go_at_call 315; refine (HF.out _).mono ?_; intro _))
      go_ret
      exact ⟨rfl, (by repeat (first | with_reducible exact HB.out | with_reducible exact Up.refl _ | apply Up.ext | apply Up.alloc | apply Up.drew | (refine Up.setCell ?_ (by simp [World.setCell]; try omega) _)))⟩
    · have h2 : i = 2 := by omega
      have i1 : (i == 1) = false := by simpa using h1
      have i2 : (i == 2) = true := by simpa using h2
      rw [if_neg h1, if_pos h2]
      clear hi h1 hi0 h2
      cases F
      · clear HR HW hmr
        rw [Bool.false_and]
        (unfold Gives; go_enter Tryz.func20, Tryz.ntmps20)
        go_wp2_with fail
        go_at_call 16
        refine forgetK (fun V => Up w V ∧ Box V w.heap.size #[.slice a n c, .int .i64 home, .slice sa sn sc, .slice ca cn cc] 28 ∧ Box V (w.heap.size + 1) (offA o) 32 ∧ Box V (w.heap.size + 1 + 1) #[.int .i64 (i), .int .i64 (v)] 34 ∧ Box V (w.heap.size + 1 + 1 + 1) #[.int .i64 (p1), .int .i64 (p2)] 30) ⟨(by repeat (first | with_reducible exact Up.refl _ | with_reducible apply Up.plus | apply Up.ext | apply Up.alloc | apply Up.drew | (refine Up.setCell ?_ (by simp; try omega) _))), (by repeat (first | exact Box.mk rfl | (refine Box.mk ?_; simp; done) | apply Box.ext | apply Box.drew | apply Box.alloc | apply Box.two1 | (refine Box.other ?_ (by omega) _ _))), (by repeat (first | exact Box.mk rfl | (refine Box.mk ?_; simp; done) | apply Box.ext | apply Box.drew | apply Box.alloc | apply Box.two1 | (refine Box.other ?_ (by omega) _ _))), (by repeat (first | exact Box.mk rfl | (refine Box.mk ?_; simp; done) | apply Box.ext | apply Box.drew | apply Box.alloc | apply Box.two1 | (refine Box.other ?_ (by omega) _ _))), (by repeat (first | exact Box.mk rfl | (refine Box.mk ?_; simp; done) | apply Box.ext | apply Box.drew | apply Box.alloc | apply Box.two1 | (refine Box.other ?_ (by omega) _ _)))⟩ ?_
        rintro V ⟨hu, bs, bo, br, bp⟩
        have HB := hide hu
        clear hu
        refine (HC.out _ HB.out).mono ?_
        intro q1
        have s0 := bs.cell 0 rfl
        have s1 := bs.cell 1 rfl
        have s2 := bs.cell 2 rfl
        have s3 := bs.cell 3 rfl
        have ls := bs.lt
        have f0 := bo.cell 0 rfl
        have f1 := bo.cell 1 rfl
        have f2 := bo.cell 2 rfl
        have f3 := bo.cell 3 rfl
        have f4 := bo.cell 4 rfl
        have f5 := bo.cell 5 rfl
        have f6 := bo.cell 6 rfl
        have f7 := bo.cell 7 rfl
        have f8 := bo.cell 8 rfl
        have f9 := bo.cell 9 rfl
        have f10 := bo.cell 10 rfl
        have lf := bo.lt
        have r0 := br.cell 0 rfl
        have r1 := br.cell 1 rfl
        have lr := br.lt
        have g0 := bp.cell 0 rfl
        have g1 := bp.cell 1 rfl
        have lg := bp.lt
        clear bs bo br bp
        go_wp2_with (first | (go_at_call 68; refine (HP.out _).mono ?_; intro _) | (go_at_call 58; refine (HO.out _ (by repeat (first | with_reducible exact HB.out | with_reducible exact Up.refl _ | with_reducible apply Up.ext | with_reducible apply Up.alloc | with_reducible apply Up.drew | (with_reducible refine Up.setCell ?_ (by simp only; omega) _)))).mono ?_; intro _) | (go_at_call 315; refine (HF.out _).mono ?_; intro _))
        go_ret
        exact ⟨rfl, (by repeat (first | with_reducible exact HB.out | with_reducible exact Up.refl _ | apply Up.ext | apply Up.alloc | apply Up.drew | (refine Up.setCell ?_ (by simp [World.setCell]; try omega) _)))⟩
      · rw [Bool.true_and]
        replace HR := hide (HR.out rfl)
        (unfold Gives; go_enter Tryz.func20, Tryz.ntmps20)
        go_wp2_with fail
        go_at_call 16
        refine forgetK (fun V => Up w V ∧ Box V w.heap.size #[.slice a n c, .int .i64 home, .slice sa sn sc, .slice ca cn cc] 28 ∧ Box V (w.heap.size + 1) (offA o) 32 ∧ Box V (w.heap.size + 1 + 1) #[.int .i64 (i), .int .i64 (v)] 34 ∧ Box V (w.heap.size + 1 + 1 + 1) #[.int .i64 (p1), .int .i64 (p2)] 30) ⟨(by repeat (first | with_reducible exact Up.refl _ | with_reducible apply Up.plus | apply Up.ext | apply Up.alloc | apply Up.drew | (refine Up.setCell ?_ (by simp; try omega) _))), (by repeat (first | exact Box.mk rfl | (refine Box.mk ?_; simp; done) | apply Box.ext | apply Box.drew | apply Box.alloc | apply Box.two1 | (refine Box.other ?_ (by omega) _ _))), (by repeat (first | exact Box.mk rfl | (refine Box.mk ?_; simp; done) | apply Box.ext | apply Box.drew | apply Box.alloc | apply Box.two1 | (refine Box.other ?_ (by omega) _ _))), (by repeat (first | exact Box.mk rfl | (refine Box.mk ?_; simp; done) | apply Box.ext | apply Box.drew | apply Box.alloc | apply Box.two1 | (refine Box.other ?_ (by omega) _ _))), (by repeat (first | exact Box.mk rfl | (refine Box.mk ?_; simp; done) | apply Box.ext | apply Box.drew | apply Box.alloc | apply Box.two1 | (refine Box.other ?_ (by omega) _ _)))⟩ ?_
        rintro V ⟨hu, bs, bo, br, bp⟩
        have HB := hide hu
        clear hu
        refine (HC.out _ HB.out).mono ?_
        intro q1
        have s0 := bs.cell 0 rfl
        have s1 := bs.cell 1 rfl
        have s2 := bs.cell 2 rfl
        have s3 := bs.cell 3 rfl
        have ls := bs.lt
        have f0 := bo.cell 0 rfl
        have f1 := bo.cell 1 rfl
        have f2 := bo.cell 2 rfl
        have f3 := bo.cell 3 rfl
        have f4 := bo.cell 4 rfl
        have f5 := bo.cell 5 rfl
        have f6 := bo.cell 6 rfl
        have f7 := bo.cell 7 rfl
        have f8 := bo.cell 8 rfl
        have f9 := bo.cell 9 rfl
        have f10 := bo.cell 10 rfl
        have lf := bo.lt
        have r0 := br.cell 0 rfl
        have r1 := br.cell 1 rfl
        have lr := br.lt
        have g0 := bp.cell 0 rfl
        have g1 := bp.cell 1 rfl
        have lg := bp.lt
        clear bs bo br bp
        go_wp2_with (first | (go_at_call 68; refine (HP.out _).mono ?_; intro _) | (go_at_call 58; refine (HO.out _ (by repeat (first | with_reducible exact HB.out | with_reducible exact Up.refl _ | with_reducible apply Up.ext | with_reducible apply Up.alloc | with_reducible apply Up.drew | (with_reducible refine Up.setCell ?_ (by simp only; omega) _)))).mono ?_; intro _) | (go_at_call 315; refine (HF.out _).mono ?_; intro _) | (go_at_call 317; refine (HR.out _).mono ?_; intro _) | (go_at_call 61; refine (HW.out _).mono ?_; intro _))
        go_ret
        exact ⟨rfl, (by repeat (first | with_reducible exact HB.out | with_reducible exact Up.refl _ | apply Up.ext | apply Up.alloc | apply Up.drew | (refine Up.setCell ?_ (by simp [World.setCell]; try omega) _)))⟩
end Go.Proofs.YtnaiaodnnmhdkaaGreat
