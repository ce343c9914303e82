/- Package force: the pull of one body, light and heat of a question. Conditions: what lies in memory. -/
import Derived.Test.YtbcgdhldkanecaaGreatForceF
namespace Go.Proofs.YtbcgdhldkanecaaGreat
set_option linter.unusedVariables false
set_option linter.unusedSimpArgs false
open Go.RowKit Go.Shelf

theorem asked_zero {bs : List Bod} {home : Int} {l h : Sp} {g t : Int} {a : Ar} (e : askedE bs home l h g t a = 0) :
    worldE bs home = 0 ∧ driftE l h g = 0 ∧ (0 ≤ t ∧ t ≤ 1073741824) ∧ areaE a.1 a.2.1 a.2.2.1 a.2.2.2 = 0 ∧ limB a.1 a.2.1 = true ∧ limB a.2.2.1 a.2.2.2 = true := by
  unfold askedE at e
  by_cases h1 : worldE bs home = 0
  · rw [if_pos h1] at e
    by_cases h2 : driftE l h g = 0
    · rw [if_pos h2] at e
      by_cases h3 : withinB t 0 1073741824 = true
      · rw [if_pos h3] at e
        by_cases h4 : areaE a.1 a.2.1 a.2.2.1 a.2.2.2 = 0
        · rw [if_pos h4] at e
          by_cases h5 : limB a.1 a.2.1 = true ∧ limB a.2.2.1 a.2.2.2 = true
          · exact ⟨h1, h2, by simpa [withinB] using h3, h4, h5.1, h5.2⟩
          · rw [if_neg h5] at e; omega
        · rw [if_neg h4] at e; exact absurd e h4
      · rw [if_neg h3] at e; omega
    · rw [if_neg h2] at e; exact absurd e h2
  · rw [if_neg h1] at e; exact absurd e h1

def zA : Ar := (0, 0, 0, 0)
def oneV (bs : List Bod) (home body t : Int) (a : Ar) : Ar × Int :=
  if askedE bs home (0, 0) (0, 0) 0 t a = 0 then (if body < 0 ∨ (bs.length : Int) ≤ body then (zA, 7) else (pullB t a (bs.getD body.toNat ⟨0, 0, []⟩), 0)) else (zA, askedE bs home (0, 0) (0, 0) 0 t a)
def lightV (bs : List Bod) (home : Int) (l h : Sp) (g t : Int) (a : Ar) : Ar × Int :=
  if askedE bs home l h g t a = 0 then (lightP l (pullB t a (bs.getD 0 ⟨0, 0, []⟩)), 0) else (zA, askedE bs home l h g t a)
def heatV (bs : List Bod) (home : Int) (l h : Sp) (g t : Int) (a : Ar) : Ar × Int :=
  if askedE bs home l h g t a = 0 then (heatP h (pullB t a (bs.getD 0 ⟨0, 0, []⟩)), 0) else (zA, askedE bs home l h g t a)

/-- the pull of body i of a valid world -/
theorem fbody_any {K : Nat → Prop} {w : World} {a : Option Addr} {n c : Nat} {bs : List Bod} {home t : Int} {i : Nat} (hl : Bods K w (.slice a n c) bs) (hh : I64 home) (hv : worldE bs home = 0) (hi : i < bs.length) (t0 : 0 ≤ t) (t1 : t ≤ 1073741824) (x : Ar) :
    ∃ h : Value, (∀ W, Up w W → Gives Tryz.prog 40 #[.agg #[.slice a n c, .int .i64 home], .int .i64 i, .int .i64 t] W h) ∧ ∀ W, Gives Tryz.prog 41 #[h, .agg #[.int .i64 x.1, .int .i64 x.2.1, .int .i64 x.2.2.1, .int .i64 x.2.2.2]] W (.agg #[.int .i64 (pullB t x (bs.getD i ⟨0, 0, []⟩)).1, .int .i64 (pullB t x (bs.getD i ⟨0, 0, []⟩)).2.1, .int .i64 (pullB t x (bs.getD i ⟨0, 0, []⟩)).2.2.1, .int .i64 (pullB t x (bs.getD i ⟨0, 0, []⟩)).2.2.2]) := by
  have hp : bs[i]? = some bs[i] := List.getElem?_eq_getElem hi
  obtain ⟨tv, htv⟩ := fof_any hl hh hv hp t0 t1
  have hb := bodyE_zero ((worldE_zero hv).2.2.1 _ (List.getElem_mem hi))
  have e : bs.getD i ⟨0, 0, []⟩ = bs[i] := by simp [List.getD, hp]
  rw [e]
  exact ⟨_, htv, fun W => fpull_any _ _ tv (placeV bs[i] t) x hb.2.1.1 hb.2.1.2 W⟩

set_option maxRecDepth 100000 in
set_option maxHeartbeats 2000000 in
theorem fOne_any {K : Nat → Prop} {w : World} {a : Option Addr} {n c : Nat} {bs : List Bod} {home : Int} (hl : Bods K w (.slice a n c) bs) (hh : I64 home) (body t : Int) (x : Ar) :
    Gives Tryz.prog 15 #[.agg #[.slice a n c, .int .i64 home], .int .i64 body, .int .i64 t, .agg #[.int .i64 x.1, .int .i64 x.2.1, .int .i64 x.2.2.1, .int .i64 x.2.2.2]] w (.tuple #[.agg #[.int .i64 ((oneV bs home body t x).1).1, .int .i64 ((oneV bs home body t x).1).2.1, .int .i64 ((oneV bs home body t x).1).2.2.1, .int .i64 ((oneV bs home body t x).1).2.2.2], .int .i64 (oneV bs home body t x).2]) := by
  have hn := (Bods.at hl).1
  have hm := (Bods.at hl).2.1
  obtain ⟨x0, x1, y0, y1⟩ := x
  have HA := hide (fun W (hu : Up w W) => fasked_any (hl.keeps (hu.keeps K)) hh (0, 0) (0, 0) 0 t x0 x1 y0 y1)
  unfold oneV
  by_cases he : askedE bs home (0, 0) (0, 0) 0 t (x0, x1, y0, y1) = 0
  · rw [if_pos he]
    obtain ⟨h1, _, ⟨h2, h3⟩, _⟩ := asked_zero he
    rw [he] at HA
    by_cases hb : body < 0 ∨ (bs.length : Int) ≤ body
    · rw [if_pos hb]
      rw [← hn] at hb
      clear hl hn he h1
      rcases hb with hb | hb
      · (unfold Gives; go_enter Tryz.func15, Tryz.ntmps15)
        go_wp2_with (go_at_call 39; refine (HA.out _ (by repeat (first | with_reducible exact Up.refl _ | with_reducible apply Up.plus | apply Up.ext | apply Up.alloc | apply Up.drew | (refine Up.setCell ?_ (by simp; try omega) _)))).mono ?_; intro _)
        (refine forgetW (fun WF => Up w WF ∧ Box WF (w.heap.size + 1 + 1) #[.int .i64 zA.1, .int .i64 zA.2.1, .int .i64 zA.2.2.1, .int .i64 zA.2.2.2] 30) ⟨(by repeat (first | with_reducible exact Up.refl _ | with_reducible apply Up.plus | apply Up.ext | apply Up.alloc | apply Up.drew | (refine Up.setCell ?_ (by simp; try omega) _))), (by repeat (first | exact Box.mk rfl | (refine Box.mk ?_; simp; done) | apply Box.ext | apply Box.drew | apply Box.alloc | apply Box.two1 | (refine Box.other ?_ (by omega) _ _)))⟩ ?_; rintro WF ⟨huF, hbF⟩; have zF0 := hbF.cell 0 rfl; have zF1 := hbF.cell 1 rfl; have zF2 := hbF.cell 2 rfl; have zF3 := hbF.cell 3 rfl; (refine bodyPost_give huF rfl ⟨_, (by simp [results, Tryz.results15, go_sem, zF0, zF1, zF2, zF3]; rfl), ?_⟩); rfl)
      · have hb0 : decide (body < 0) = false := by simp; omega
        (unfold Gives; go_enter Tryz.func15, Tryz.ntmps15)
        go_wp2_with (go_at_call 39; refine (HA.out _ (by repeat (first | with_reducible exact Up.refl _ | with_reducible apply Up.plus | apply Up.ext | apply Up.alloc | apply Up.drew | (refine Up.setCell ?_ (by simp; try omega) _)))).mono ?_; intro _)
        (refine forgetW (fun WF => Up w WF ∧ Box WF (w.heap.size + 1 + 1) #[.int .i64 zA.1, .int .i64 zA.2.1, .int .i64 zA.2.2.1, .int .i64 zA.2.2.2] 30) ⟨(by repeat (first | with_reducible exact Up.refl _ | with_reducible apply Up.plus | apply Up.ext | apply Up.alloc | apply Up.drew | (refine Up.setCell ?_ (by simp; try omega) _))), (by repeat (first | exact Box.mk rfl | (refine Box.mk ?_; simp; done) | apply Box.ext | apply Box.drew | apply Box.alloc | apply Box.two1 | (refine Box.other ?_ (by omega) _ _)))⟩ ?_; rintro WF ⟨huF, hbF⟩; have zF0 := hbF.cell 0 rfl; have zF1 := hbF.cell 1 rfl; have zF2 := hbF.cell 2 rfl; have zF3 := hbF.cell 3 rfl; (refine bodyPost_give huF rfl ⟨_, (by simp [results, Tryz.results15, go_sem, zF0, zF1, zF2, zF3]; rfl), ?_⟩); rfl)
    · rw [if_neg hb]
      have hb' : ¬ (body < 0 ∨ (n : Int) ≤ body) := by rw [hn]; exact hb
      obtain ⟨i, rfl⟩ := Int.eq_ofNat_of_zero_le (show 0 ≤ body by omega)
      obtain ⟨h, k1, k2⟩ := fbody_any hl hh h1 (i := i) (by omega) h2 h3 (x0, x1, y0, y1)
      have K1 := hide k1
      have K2 := hide k2
      rw [show ((i : Int)).toNat = i by simp]
      generalize pullB t (x0, x1, y0, y1) (bs.getD i ⟨0, 0, []⟩) = R at *
      have hb0 : decide ((i : Int) < 0) = false := by simp
      have hb1 : decide ((n : Int) ≤ i) = false := by simp; omega
      have hb2 : decide (n ≤ i) = false := by simp; omega
      clear hl hn he h1 k1 k2 hb hb'
      (unfold Gives; go_enter Tryz.func15, Tryz.ntmps15)
      go_wp2_with (go_at_call 39; refine (HA.out _ (by repeat (first | with_reducible exact Up.refl _ | with_reducible apply Up.plus | apply Up.ext | apply Up.alloc | apply Up.drew | (refine Up.setCell ?_ (by simp; try omega) _)))).mono ?_; intro _)
      ((first | with_reducible refine wp_region_ext_tail2 2 (by kernel_rfl) (by kernel_rfl) ?_ | refine wp_region_ext_tail 2 (by kernel_rfl) (by kernel_rfl) ?_); simp only [List.length_cons, List.length_nil, Nat.reduceAdd, Nat.reduceSub, List.take_succ_cons, List.take_zero, List.drop_succ_cons, List.drop_zero]; (repeat (go_big_quiet_step ((first | (go_at_call 40; with_reducible exact Gives.inRegion (K1.out _ (by repeat (first | with_reducible exact Up.refl _ | with_reducible apply Up.plus | apply Up.ext | apply Up.alloc | apply Up.drew | (refine Up.setCell ?_ (by simp; try omega) _))))) | (go_at_call 41; with_reducible exact Gives.inRegion (K2.out _)))))); refine wpQuiet_nil ?_; intro _ hw'; obtain ⟨_, hw''⟩ := hw'; subst hw'')
      go_wp2
      (refine forgetW (fun WF => Up w WF ∧ Box WF (w.heap.size + 1 + 1) #[.int .i64 R.1, .int .i64 R.2.1, .int .i64 R.2.2.1, .int .i64 R.2.2.2] 30) ⟨(by repeat (first | with_reducible exact Up.refl _ | with_reducible apply Up.plus | apply Up.ext | apply Up.alloc | apply Up.drew | (refine Up.setCell ?_ (by simp; try omega) _))), (by repeat (first | exact Box.mk rfl | (refine Box.mk ?_; simp; done) | apply Box.ext | apply Box.drew | apply Box.alloc | apply Box.two1 | (refine Box.other ?_ (by omega) _ _)))⟩ ?_; rintro WF ⟨huF, hbF⟩; have zF0 := hbF.cell 0 rfl; have zF1 := hbF.cell 1 rfl; have zF2 := hbF.cell 2 rfl; have zF3 := hbF.cell 3 rfl; (refine bodyPost_give huF rfl ⟨_, (by simp [results, Tryz.results15, go_sem, zF0, zF1, zF2, zF3]; rfl), ?_⟩); rfl)
  · rw [if_neg he]
    have heb : (askedE bs home (0, 0) (0, 0) 0 t (x0, x1, y0, y1) != 0) = true := by simp [he]
    generalize askedE bs home (0, 0) (0, 0) 0 t (x0, x1, y0, y1) = e at *
    clear hl hn he
    (unfold Gives; go_enter Tryz.func15, Tryz.ntmps15)
    go_wp2_with (go_at_call 39; refine (HA.out _ (by repeat (first | with_reducible exact Up.refl _ | with_reducible apply Up.plus | apply Up.ext | apply Up.alloc | apply Up.drew | (refine Up.setCell ?_ (by simp; try omega) _)))).mono ?_; intro _)
    (refine forgetW (fun WF => Up w WF ∧ Box WF (w.heap.size + 1 + 1) #[.int .i64 zA.1, .int .i64 zA.2.1, .int .i64 zA.2.2.1, .int .i64 zA.2.2.2] 30) ⟨(by repeat (first | with_reducible exact Up.refl _ | with_reducible apply Up.plus | apply Up.ext | apply Up.alloc | apply Up.drew | (refine Up.setCell ?_ (by simp; try omega) _))), (by repeat (first | exact Box.mk rfl | (refine Box.mk ?_; simp; done) | apply Box.ext | apply Box.drew | apply Box.alloc | apply Box.two1 | (refine Box.other ?_ (by omega) _ _)))⟩ ?_; rintro WF ⟨huF, hbF⟩; have zF0 := hbF.cell 0 rfl; have zF1 := hbF.cell 1 rfl; have zF2 := hbF.cell 2 rfl; have zF3 := hbF.cell 3 rfl; (refine bodyPost_give huF rfl ⟨_, (by simp [results, Tryz.results15, go_sem, zF0, zF1, zF2, zF3]; rfl), ?_⟩); rfl)

set_option maxRecDepth 100000 in
set_option maxHeartbeats 2000000 in
theorem fLight_any {K : Nat → Prop} {w : World} {a : Option Addr} {n c : Nat} {bs : List Bod} {home : Int} (hl : Bods K w (.slice a n c) bs) (hh : I64 home) (l h : Sp) (g t : Int) (x : Ar) :
    Gives Tryz.prog 26 #[.agg #[.slice a n c, .int .i64 home], .agg #[.int .i64 l.1, .int .i64 l.2, .int .i64 h.1, .int .i64 h.2, .int .i64 g], .int .i64 t, .agg #[.int .i64 x.1, .int .i64 x.2.1, .int .i64 x.2.2.1, .int .i64 x.2.2.2]] w (.tuple #[.agg #[.int .i64 ((lightV bs home l h g t x).1).1, .int .i64 ((lightV bs home l h g t x).1).2.1, .int .i64 ((lightV bs home l h g t x).1).2.2.1, .int .i64 ((lightV bs home l h g t x).1).2.2.2], .int .i64 (lightV bs home l h g t x).2]) := by
  obtain ⟨x0, x1, y0, y1⟩ := x
  have HA := hide (fun W (hu : Up w W) => fasked_any (hl.keeps (hu.keeps K)) hh l h g t x0 x1 y0 y1)
  unfold lightV
  by_cases he : askedE bs home l h g t (x0, x1, y0, y1) = 0
  · rw [if_pos he]
    obtain ⟨h1, _, ⟨h2, h3⟩, _⟩ := asked_zero he
    rw [he] at HA
    obtain ⟨hv, k1, k2⟩ := fbody_any hl hh h1 (i := 0) (by have := (worldE_zero h1).1; exact List.length_pos_iff.2 this) h2 h3 (x0, x1, y0, y1)
    have K1 := hide k1
    have K2 := hide k2
    generalize pullB t (x0, x1, y0, y1) (bs.getD 0 ⟨0, 0, []⟩) = R at *
    have K3 := hide (fun W => flight_any l h g R W)
    generalize lightP l R = S at *
    clear hl he h1 k1 k2
    (unfold Gives; go_enter Tryz.func26, Tryz.ntmps26)
    go_wp2_with (go_at_call 39; refine (HA.out _ (by repeat (first | with_reducible exact Up.refl _ | with_reducible apply Up.plus | apply Up.ext | apply Up.alloc | apply Up.drew | (refine Up.setCell ?_ (by simp; try omega) _)))).mono ?_; intro _)
    ((first | with_reducible refine wp_region_ext_tail2 2 (by kernel_rfl) (by kernel_rfl) ?_ | refine wp_region_ext_tail 2 (by kernel_rfl) (by kernel_rfl) ?_); simp only [List.length_cons, List.length_nil, Nat.reduceAdd, Nat.reduceSub, List.take_succ_cons, List.take_zero, List.drop_succ_cons, List.drop_zero]; (repeat (go_big_quiet_step ((first | (go_at_call 40; with_reducible exact Gives.inRegion (K1.out _ (by repeat (first | with_reducible exact Up.refl _ | with_reducible apply Up.plus | apply Up.ext | apply Up.alloc | apply Up.drew | (refine Up.setCell ?_ (by simp; try omega) _))))) | (go_at_call 41; with_reducible exact Gives.inRegion (K2.out _)) | (go_at_call 50; with_reducible exact Gives.inRegion (K3.out _)))))); refine wpQuiet_nil ?_; intro _ hw'; obtain ⟨_, hw''⟩ := hw'; subst hw'')
    go_wp2
    (refine forgetW (fun WF => Up w WF ∧ Box WF (w.heap.size + 1 + 1 + 1) #[.int .i64 S.1, .int .i64 S.2.1, .int .i64 S.2.2.1, .int .i64 S.2.2.2] 30) ⟨(by repeat (first | with_reducible exact Up.refl _ | with_reducible apply Up.plus | apply Up.ext | apply Up.alloc | apply Up.drew | (refine Up.setCell ?_ (by simp; try omega) _))), (by repeat (first | exact Box.mk rfl | (refine Box.mk ?_; simp; done) | apply Box.ext | apply Box.drew | apply Box.alloc | apply Box.two1 | (refine Box.other ?_ (by omega) _ _)))⟩ ?_; rintro WF ⟨huF, hbF⟩; have zF0 := hbF.cell 0 rfl; have zF1 := hbF.cell 1 rfl; have zF2 := hbF.cell 2 rfl; have zF3 := hbF.cell 3 rfl; (refine bodyPost_give huF rfl ⟨_, (by simp [results, Tryz.results26, go_sem, zF0, zF1, zF2, zF3]; rfl), ?_⟩); rfl)
  · rw [if_neg he]
    have heb : (askedE bs home l h g t (x0, x1, y0, y1) != 0) = true := by simp [he]
    generalize askedE bs home l h g t (x0, x1, y0, y1) = e at *
    clear hl he
    (unfold Gives; go_enter Tryz.func26, Tryz.ntmps26)
    go_wp2_with (go_at_call 39; refine (HA.out _ (by repeat (first | with_reducible exact Up.refl _ | with_reducible apply Up.plus | apply Up.ext | apply Up.alloc | apply Up.drew | (refine Up.setCell ?_ (by simp; try omega) _)))).mono ?_; intro _)
    (refine forgetW (fun WF => Up w WF ∧ Box WF (w.heap.size + 1 + 1 + 1) #[.int .i64 zA.1, .int .i64 zA.2.1, .int .i64 zA.2.2.1, .int .i64 zA.2.2.2] 30) ⟨(by repeat (first | with_reducible exact Up.refl _ | with_reducible apply Up.plus | apply Up.ext | apply Up.alloc | apply Up.drew | (refine Up.setCell ?_ (by simp; try omega) _))), (by repeat (first | exact Box.mk rfl | (refine Box.mk ?_; simp; done) | apply Box.ext | apply Box.drew | apply Box.alloc | apply Box.two1 | (refine Box.other ?_ (by omega) _ _)))⟩ ?_; rintro WF ⟨huF, hbF⟩; have zF0 := hbF.cell 0 rfl; have zF1 := hbF.cell 1 rfl; have zF2 := hbF.cell 2 rfl; have zF3 := hbF.cell 3 rfl; (refine bodyPost_give huF rfl ⟨_, (by simp [results, Tryz.results26, go_sem, zF0, zF1, zF2, zF3]; rfl), ?_⟩); rfl)

set_option maxRecDepth 100000 in
set_option maxHeartbeats 2000000 in
theorem fHeat_any {K : Nat → Prop} {w : World} {a : Option Addr} {n c : Nat} {bs : List Bod} {home : Int} (hl : Bods K w (.slice a n c) bs) (hh : I64 home) (l h : Sp) (g t : Int) (x : Ar) :
    Gives Tryz.prog 28 #[.agg #[.slice a n c, .int .i64 home], .agg #[.int .i64 l.1, .int .i64 l.2, .int .i64 h.1, .int .i64 h.2, .int .i64 g], .int .i64 t, .agg #[.int .i64 x.1, .int .i64 x.2.1, .int .i64 x.2.2.1, .int .i64 x.2.2.2]] w (.tuple #[.agg #[.int .i64 ((heatV bs home l h g t x).1).1, .int .i64 ((heatV bs home l h g t x).1).2.1, .int .i64 ((heatV bs home l h g t x).1).2.2.1, .int .i64 ((heatV bs home l h g t x).1).2.2.2], .int .i64 (heatV bs home l h g t x).2]) := by
  obtain ⟨x0, x1, y0, y1⟩ := x
  have HA := hide (fun W (hu : Up w W) => fasked_any (hl.keeps (hu.keeps K)) hh l h g t x0 x1 y0 y1)
  unfold heatV
  by_cases he : askedE bs home l h g t (x0, x1, y0, y1) = 0
  · rw [if_pos he]
    obtain ⟨h1, _, ⟨h2, h3⟩, _⟩ := asked_zero he
    rw [he] at HA
    obtain ⟨hv, k1, k2⟩ := fbody_any hl hh h1 (i := 0) (by have := (worldE_zero h1).1; exact List.length_pos_iff.2 this) h2 h3 (x0, x1, y0, y1)
    have K1 := hide k1
    have K2 := hide k2
    generalize pullB t (x0, x1, y0, y1) (bs.getD 0 ⟨0, 0, []⟩) = R at *
    have K3 := hide (fun W => fheat_any l h g R W)
    generalize heatP h R = S at *
    clear hl he h1 k1 k2
    (unfold Gives; go_enter Tryz.func28, Tryz.ntmps28)
    go_wp2_with (go_at_call 39; refine (HA.out _ (by repeat (first | with_reducible exact Up.refl _ | with_reducible apply Up.plus | apply Up.ext | apply Up.alloc | apply Up.drew | (refine Up.setCell ?_ (by simp; try omega) _)))).mono ?_; intro _)
    ((first | with_reducible refine wp_region_ext_tail2 2 (by kernel_rfl) (by kernel_rfl) ?_ | refine wp_region_ext_tail 2 (by kernel_rfl) (by kernel_rfl) ?_); simp only [List.length_cons, List.length_nil, Nat.reduceAdd, Nat.reduceSub, List.take_succ_cons, List.take_zero, List.drop_succ_cons, List.drop_zero]; (repeat (go_big_quiet_step ((first | (go_at_call 40; with_reducible exact Gives.inRegion (K1.out _ (by repeat (first | with_reducible exact Up.refl _ | with_reducible apply Up.plus | apply Up.ext | apply Up.alloc | apply Up.drew | (refine Up.setCell ?_ (by simp; try omega) _))))) | (go_at_call 41; with_reducible exact Gives.inRegion (K2.out _)) | (go_at_call 51; with_reducible exact Gives.inRegion (K3.out _)))))); refine wpQuiet_nil ?_; intro _ hw'; obtain ⟨_, hw''⟩ := hw'; subst hw'')
    go_wp2
    (refine forgetW (fun WF => Up w WF ∧ Box WF (w.heap.size + 1 + 1 + 1) #[.int .i64 S.1, .int .i64 S.2.1, .int .i64 S.2.2.1, .int .i64 S.2.2.2] 30) ⟨(by repeat (first | with_reducible exact Up.refl _ | with_reducible apply Up.plus | apply Up.ext | apply Up.alloc | apply Up.drew | (refine Up.setCell ?_ (by simp; try omega) _))), (by repeat (first | exact Box.mk rfl | (refine Box.mk ?_; simp; done) | apply Box.ext | apply Box.drew | apply Box.alloc | apply Box.two1 | (refine Box.other ?_ (by omega) _ _)))⟩ ?_; rintro WF ⟨huF, hbF⟩; have zF0 := hbF.cell 0 rfl; have zF1 := hbF.cell 1 rfl; have zF2 := hbF.cell 2 rfl; have zF3 := hbF.cell 3 rfl; (refine bodyPost_give huF rfl ⟨_, (by simp [results, Tryz.results28, go_sem, zF0, zF1, zF2, zF3]; rfl), ?_⟩); rfl)
  · rw [if_neg he]
    have heb : (askedE bs home l h g t (x0, x1, y0, y1) != 0) = true := by simp [he]
    generalize askedE bs home l h g t (x0, x1, y0, y1) = e at *
    clear hl he
    (unfold Gives; go_enter Tryz.func28, Tryz.ntmps28)
    go_wp2_with (go_at_call 39; refine (HA.out _ (by repeat (first | with_reducible exact Up.refl _ | with_reducible apply Up.plus | apply Up.ext | apply Up.alloc | apply Up.drew | (refine Up.setCell ?_ (by simp; try omega) _)))).mono ?_; intro _)
    (refine forgetW (fun WF => Up w WF ∧ Box WF (w.heap.size + 1 + 1 + 1) #[.int .i64 zA.1, .int .i64 zA.2.1, .int .i64 zA.2.2.1, .int .i64 zA.2.2.2] 30) ⟨(by repeat (first | with_reducible exact Up.refl _ | with_reducible apply Up.plus | apply Up.ext | apply Up.alloc | apply Up.drew | (refine Up.setCell ?_ (by simp; try omega) _))), (by repeat (first | exact Box.mk rfl | (refine Box.mk ?_; simp; done) | apply Box.ext | apply Box.drew | apply Box.alloc | apply Box.two1 | (refine Box.other ?_ (by omega) _ _)))⟩ ?_; rintro WF ⟨huF, hbF⟩; have zF0 := hbF.cell 0 rfl; have zF1 := hbF.cell 1 rfl; have zF2 := hbF.cell 2 rfl; have zF3 := hbF.cell 3 rfl; (refine bodyPost_give huF rfl ⟨_, (by simp [results, Tryz.results28, go_sem, zF0, zF1, zF2, zF3]; rfl), ?_⟩); rfl)
end Go.Proofs.YtbcgdhldkanecaaGreat
