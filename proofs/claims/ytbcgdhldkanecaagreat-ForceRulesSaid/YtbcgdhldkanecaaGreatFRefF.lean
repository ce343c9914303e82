/- The reference of package force: the energy of a state, or which error there is. Conditions: what lies in memory. -/
import Derived.Test.YtbcgdhldkanecaaGreatFRefE
import Derived.Test.YtbcgdhldkanecaaGreatEnergy
namespace Go.Proofs.YtbcgdhldkanecaaGreat
set_option linter.unusedVariables false
set_option linter.unusedSimpArgs false
open Go.RowKit Go.Shelf

set_option maxRecDepth 100000 in
set_option maxHeartbeats 2000000 in
theorem g_Energy {K : Nat → Prop} {w : World} {a : Option Addr} {n c : Nat} {bs : List Bod} {home : Int} (hl : Bods K w (.slice a n c) bs) (hh : I64 home) (t x y u v : Int) :
    Gives Tryz.prog 31 #[.agg #[.slice a n c, .int .i64 home], .int .i64 t, .agg #[.int .i64 (x), .int .i64 (y), .int .i64 (u), .int .i64 (v)]] w (.tuple #[.agg #[.int .i64 (energyV bs home t x y u v).1.1, .int .i64 (energyV bs home t x y u v).1.2], .int .i64 (energyV bs home t x y u v).2]) := by
  unfold energyV
  by_cases he : askedE bs home (0, 0) (0, 0) 0 t (x, x, y, y) = 0
  · rw [if_pos he]
    by_cases hw : withinB u (-1048576) 1048576 = true ∧ withinB v (-1048576) 1048576 = true
    · rw [if_pos hw]
      exact g_Energy_in hl hh t x y u v he hw.1 hw.2
    · rw [if_neg hw]
      have HA := hide (fun W (hu : Up w W) => g_asked (hl.keeps (hu.keeps K)) hh (0, 0) (0, 0) 0 t x x y y)
      rw [he] at HA
      have HW1 := hide (fun W => g_between u (-1048576) 1048576 W)
      have HW2 := hide (fun W => g_between v (-1048576) 1048576 W)
      generalize withinB u (-1048576) 1048576 = U at *
      generalize withinB v (-1048576) 1048576 = V at *
      clear hl he
      cases U <;> cases V <;> (try exact absurd ⟨rfl, rfl⟩ hw) <;> clear hw <;> (
        (unfold Gives; go_enter Tryz.func31, Tryz.ntmps31)
        go_wp2_with (first | (go_at_call 54; refine (g_at _ _ _).mono ?_; intro _) | (go_at_call 42; refine (HA.out _ (by repeat (first | with_reducible exact Up.refl _ | with_reducible apply Up.plus | apply Up.ext | apply Up.alloc | apply Up.drew | (refine Up.setCell ?_ (by simp; try omega) _)))).mono ?_; intro _) | (go_at_call 47; (with_reducible refine (HW1.out _).mono ?_); intro _) | (go_at_call 47; (with_reducible refine (HW2.out _).mono ?_); intro _))
        (refine forgetW (fun WF => Up w WF ∧ Box WF (w.heap.size + 1 + 1) #[.int .i64 ((0, 0) : Sp).1, .int .i64 ((0, 0) : Sp).2] 26) ⟨(by repeat (first | with_reducible exact Up.refl _ | with_reducible apply Up.plus | apply Up.ext | apply Up.alloc | apply Up.drew | (refine Up.setCell ?_ (by simp; try omega) _))), (by repeat (first | exact Box.mk rfl | (refine Box.mk ?_; simp; done) | apply Box.ext | apply Box.drew | apply Box.alloc | apply Box.two1 | (refine Box.other ?_ (by omega) _ _)))⟩ ?_; rintro WF ⟨huF, hbF⟩; have zF0 := hbF.cell 0 rfl; have zF1 := hbF.cell 1 rfl; (refine bodyPost_give huF rfl ⟨_, (by simp [results, Tryz.results31, go_sem, zF0, zF1]; rfl), ?_⟩); rfl))
  · rw [if_neg he]
    have HA := hide (fun W (hu : Up w W) => g_asked (hl.keeps (hu.keeps K)) hh (0, 0) (0, 0) 0 t x x y y)
    have heb : (askedE bs home (0, 0) (0, 0) 0 t (x, x, y, y) != 0) = true := by simp [he]
    generalize askedE bs home (0, 0) (0, 0) 0 t (x, x, y, y) = E at *
    clear hl he
    (unfold Gives; go_enter Tryz.func31, Tryz.ntmps31)
    go_wp2_with (first | (go_at_call 54; refine (g_at _ _ _).mono ?_; intro _) | (go_at_call 42; refine (HA.out _ (by repeat (first | with_reducible exact Up.refl _ | with_reducible apply Up.plus | apply Up.ext | apply Up.alloc | apply Up.drew | (refine Up.setCell ?_ (by simp; try omega) _)))).mono ?_; intro _))
    (refine forgetW (fun WF => Up w WF ∧ Box WF (w.heap.size + 1 + 1) #[.int .i64 ((0, 0) : Sp).1, .int .i64 ((0, 0) : Sp).2] 26) ⟨(by repeat (first | with_reducible exact Up.refl _ | with_reducible apply Up.plus | apply Up.ext | apply Up.alloc | apply Up.drew | (refine Up.setCell ?_ (by simp; try omega) _))), (by repeat (first | exact Box.mk rfl | (refine Box.mk ?_; simp; done) | apply Box.ext | apply Box.drew | apply Box.alloc | apply Box.two1 | (refine Box.other ?_ (by omega) _ _)))⟩ ?_; rintro WF ⟨huF, hbF⟩; have zF0 := hbF.cell 0 rfl; have zF1 := hbF.cell 1 rfl; (refine bodyPost_give huF rfl ⟨_, (by simp [results, Tryz.results31, go_sem, zF0, zF1]; rfl), ?_⟩); rfl)
end Go.Proofs.YtbcgdhldkanecaaGreat
