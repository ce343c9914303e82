/- ForceKnown returns true: the examples of the chapter have the results given there. No conditions. -/
import Derived.Test.YtbcgdhldkanecaaShown
import Derived.Test.YtbcgdhldkanecaaSumG
import Derived.Test.YtbcgdhldkanecaaEnerQ
import Derived.Test.YtbcgdhldkanecaaRuler
import Derived.Test.YtbcgdhldkanecaaPostn
import Derived.JoinedOf
import Derived.JoinedAt
import Derived.ChangeSame
import Derived.OpenShut
namespace Go.Proofs.Ytbcgdhldkanecaa
open Go.RowKit Go.ChangeShapes Go.WideShapes Go.ChangeAt Go.Joins Go.Shelf

theorem energy_at2 {K : Nat → Prop} {w : World} {a : Option Addr} {n c : Nat} {bs : List Bod} {home : Int} (hl : Bods K w (.slice a n c) bs) (hh : I64 home) {t x y u v r1 r2 : Int} (e : energyV bs home t x y u v = ((r1, r2), 0)) :
    Gives Try.prog 36 #[.agg #[.slice a n c, .int .i64 home], .int .i64 t, .agg #[.int .i64 (x), .int .i64 (y), .int .i64 (u), .int .i64 (v)]] w (.tuple #[.agg #[.int .i64 (r1), .int .i64 (r2)], .int .i64 0]) := by
  have := fEnergy_any hl hh t x y u v
  rw [e] at this
  exact this
theorem ruler_at2 {K : Nat → Prop} {w : World} {a : Option Addr} {n c : Nat} {bs : List Bod} {home : Int} (hl : Bods K w (.slice a n c) bs) (hh : I64 home) {t x y rn : Int} {ri : Bool} (e : rulerV bs home t x y = (rn, ri)) :
    Gives Try.prog 37 #[.agg #[.slice a n c, .int .i64 home], .int .i64 t, .agg #[.int .i64 (x), .int .i64 (y)]] w (.tuple #[.int .i64 rn, .bool ri]) := by
  have := fRuler_any hl hh t x y
  rw [e] at this
  exact this
theorem one_at2 {K : Nat → Prop} {w : World} {a : Option Addr} {n c : Nat} {bs : List Bod} {home : Int} (hl : Bods K w (.slice a n c) bs) (hh : I64 home) {i t x0 x1 y0 y1 e : Int} {v : Ar} (h : oneV bs home i t (x0, x1, y0, y1) = (v, e)) :
    Gives Try.prog 14 #[.agg #[.slice a n c, .int .i64 home], .int .i64 i, .int .i64 t, .agg #[.int .i64 (x0), .int .i64 (x1), .int .i64 (y0), .int .i64 (y1)]] w (.tuple #[.agg #[.int .i64 v.1, .int .i64 v.2.1, .int .i64 v.2.2.1, .int .i64 v.2.2.2], .int .i64 e]) := by
  have := fOne_any hl hh i t (x0, x1, y0, y1)
  rw [h] at this
  exact this
theorem pull_at2 {K : Nat → Prop} {w : World} {a : Option Addr} {n c : Nat} {bs : List Bod} {home : Int} (hl : Bods K w (.slice a n c) bs) (hh : I64 home) {l1 l2 h1 h2 g t px py : Int} {v : Ar} (e : overV bs home (l1, l2) (h1, h2) g t (px, px, py, py) = (v, 0)) :
    Gives Try.prog 35 #[.agg #[.slice a n c, .int .i64 home], .agg #[.int .i64 (l1), .int .i64 (l2), .int .i64 (h1), .int .i64 (h2), .int .i64 (g)], .int .i64 t, .agg #[.int .i64 (px), .int .i64 (py)]] w (.tuple #[.agg #[.int .i64 v.1, .int .i64 v.2.1, .int .i64 v.2.2.1, .int .i64 v.2.2.2], .int .i64 0]) := by
  have := fPull_any hl hh (l1, l2) (h1, h2) g t px py
  rw [e] at this
  exact this
/-- the world, with the row of its bodies -/
theorem shown_boxes (w : World) : Calls Try.prog 40 #[] w fun e W => ∃ (g x : Nat) (p : Ext), e = .returned (.agg #[.slice (some ⟨g, 0, none⟩) 2 2, .int .i64 1]) ∧ W = ext w p ∧ w.heap.size ≤ g ∧ w.heap.size ≤ x ∧ x ≠ g ∧
    Box W x #[.int .i64 (0), .int .i64 (0)] 26 ∧ ∃ y : Value, Box W g #[.int .i64 1000000, .int .i64 10, .slice (some ⟨x, 0, none⟩) 1 1, .int .i64 10000, .int .i64 2, y] 31 := by
  go_enter Try.func40, Try.ntmps40
  go_wp2
  refine forgetW (fun W => Up w W ∧ Box W w.heap.size #[.slice (some ⟨w.heap.size + 1 + 1 + 1, 0, none⟩) 2 2, .int .i64 1] 34 ∧ Box W (w.heap.size + 1) #[.int .i64 (0), .int .i64 (0)] 26 ∧ Box W (w.heap.size + 1 + 1) #[.int .i64 (100), .int .i64 (0), .int .i64 (0), .int .i64 (100)] 26 ∧
    Box W (w.heap.size + 1 + 1 + 1) #[.int .i64 1000000, .int .i64 10, .slice (some ⟨w.heap.size + 1, 0, none⟩) 1 1, .int .i64 10000, .int .i64 2, .slice (some ⟨w.heap.size + 1 + 1, 0, none⟩) 2 2] 31) ⟨(by repeat (first | with_reducible exact Up.refl _ | with_reducible apply Up.plus | apply Up.ext | apply Up.alloc | apply Up.drew | (refine Up.setCell ?_ (by simp; try omega) _))), (by repeat (first | exact Box.mk rfl | (refine Box.mk ?_; simp; done) | apply Box.ext | apply Box.drew | apply Box.alloc | apply Box.two1 | (refine Box.other ?_ (by omega) _ _))), (by repeat (first | exact Box.mk rfl | (refine Box.mk ?_; simp; done) | apply Box.ext | apply Box.drew | apply Box.alloc | apply Box.two1 | (refine Box.other ?_ (by omega) _ _))), (by repeat (first | exact Box.mk rfl | (refine Box.mk ?_; simp; done) | apply Box.ext | apply Box.drew | apply Box.alloc | apply Box.two1 | (refine Box.other ?_ (by omega) _ _))), (by repeat (first | exact Box.mk rfl | (refine Box.mk ?_; simp; done) | apply Box.ext | apply Box.drew | apply Box.alloc | apply Box.two1 | (refine Box.other ?_ (by omega) _ _)))⟩ ?_
  rintro W ⟨⟨p, hp⟩, b0, b1, b2, b3⟩
  have c0 := b0.cell 0 rfl
  have c1 := b0.cell 1 rfl
  exact bodyPost_ret (v := .agg #[.slice (some ⟨w.heap.size + 1 + 1 + 1, 0, none⟩) 2 2, .int .i64 1]) (by simp [results, Try.results40, go_sem, c0, c1]) rfl ⟨_, _, p, rfl, hp, by omega, by omega, by omega, b1, _, b3⟩
def twinBs : List Bod := [⟨1000000, 10, [(0, 0)]⟩, ⟨1000000, 10, [(10, 0)]⟩]
theorem twin_lies {W : World} {g x z : Nat} (h1 : Box W x #[.int .i64 (0), .int .i64 (0)] 26) (h2 : Box W z #[.int .i64 (10), .int .i64 (0)] 26) (h3 : Box W g #[.int .i64 1000000, .int .i64 10, .slice (some ⟨x, 0, none⟩) 1 1, .int .i64 1000000, .int .i64 10, .slice (some ⟨z, 0, none⟩) 1 1] 31) :
    Bods (fun _ => True) W (.slice (some ⟨g, 0, none⟩) 2 2) twinBs := by
  have v1 : Vecs (fun _ => True) W (.slice (some ⟨x, 0, none⟩) 1 1) [(0, 0)] := Vecs.of (K := fun _ => True) (l := [(0, 0)]) h1 trivial rfl (by decide) (fun i q hq => by
    match i, hq with
    | 0, hq => cases hq; exact ⟨rfl, rfl, ⟨by decide, by decide⟩, by decide, by decide⟩) 1
  have v2 : Vecs (fun _ => True) W (.slice (some ⟨z, 0, none⟩) 1 1) [(10, 0)] := Vecs.of (K := fun _ => True) (l := [(10, 0)]) h2 trivial rfl (by decide) (fun i q hq => by
    match i, hq with
    | 0, hq => cases hq; exact ⟨rfl, rfl, ⟨by decide, by decide⟩, by decide, by decide⟩) 1
  exact Bods.of (K := fun _ => True) (l := twinBs) h3 trivial rfl (by decide) (fun i q hq => by
    match i, hq with
    | 0, hq => cases hq; exact ⟨_, rfl, rfl, rfl, ⟨by decide, by decide⟩, ⟨by decide, by decide⟩, v1⟩
    | 1, hq => cases hq; exact ⟨_, rfl, rfl, rfl, ⟨by decide, by decide⟩, ⟨by decide, by decide⟩, v2⟩) 2

/-! ### the values -/
theorem fk1 : oneV shownBs 1 1 0 (50, 50, 0, 0) = ((4, 4, 0, 0), 0) := by decide +kernel
theorem fk2 : oneV shownBs 1 1 1 (50, 50, 0, 0) = ((-1, 0, 0, 1), 0) := by decide +kernel
theorem fk3 : overV shownBs 1 (0, 0) (0, 0) 0 0 (50, 50, 0, 0) = ((-396, -396, 0, 0), 0) := by decide +kernel
theorem fk4 : lightV shownBs 1 (0, 100) (-10, 10) 1 0 (50, 50, 0, 0) = ((0, 40, 0, 0), 0) := by decide +kernel
theorem fk5 : heatV shownBs 1 (0, 100) (-10, 10) 1 0 (50, 50, 0, 0) = ((0, 0, -4, 4), 0) := by decide +kernel
theorem fk6 : overV shownBs 1 (0, 100) (-10, 10) 1 0 (50, 50, 0, 0) = ((-397, -355, -5, 5), 0) := by decide +kernel
theorem fk7 : energyV shownBs 1 0 50 0 100 0 = ((-30400, -30400), 0) := by decide +kernel
theorem fk8 : rulerV shownBs 1 0 50 0 = (0, true) := by decide +kernel
theorem fk9 : rulerV shownBs 1 0 99 0 = (1, true) := by decide +kernel
theorem fk10 : rulerV twinBs 1 0 5 0 = (0, false) := by decide +kernel
theorem fk11 : oneV shownBs 1 2 0 (0, 0, 0, 0) = ((0, 0, 0, 0), 7) := by decide +kernel
theorem fk12 : oneV shownBs 1 0 (-1) (0, 0, 0, 0) = ((0, 0, 0, 0), 2) := by decide +kernel
def plF (k : Nat) : Ar := [(50, 50, 0, 0), (30, 30, 40, 40), (1, 1, 1, 1), (40, 50, 0, 0)].getD k (0, 0, 0, 0)
def wnF (k : Nat) : Ar := [(-400, -400, 0, 0), (-240, -240, -320, -320), (-1000, -1000, -1000, -1000), (-782, -320, 0, 0)].getD k (0, 0, 0, 0)
theorem fkl0 : oneV shownBs 1 0 0 (plF 0) = (wnF 0, 0) := by decide +kernel
theorem fkl1 : oneV shownBs 1 0 0 (plF 1) = (wnF 1, 0) := by decide +kernel
theorem fkl2 : oneV shownBs 1 0 0 (plF 2) = (wnF 2, 0) := by decide +kernel
theorem fkl3 : oneV shownBs 1 0 0 (plF 3) = (wnF 3, 0) := by decide +kernel
theorem fk_facts {W : World} {b c : Nat} {T : TypeId} (hb : Box W b #[.int .i64 (50), .int .i64 (50), .int .i64 (0), .int .i64 (0), .int .i64 (30), .int .i64 (30), .int .i64 (40), .int .i64 (40), .int .i64 (1), .int .i64 (1), .int .i64 (1), .int .i64 (1), .int .i64 (40), .int .i64 (50), .int .i64 (0), .int .i64 (0)] T) (hc : Box W c #[.int .i64 (-400), .int .i64 (-400), .int .i64 (0), .int .i64 (0), .int .i64 (-240), .int .i64 (-240), .int .i64 (-320), .int .i64 (-320), .int .i64 (-1000), .int .i64 (-1000), .int .i64 (-1000), .int .i64 (-1000), .int .i64 (-782), .int .i64 (-320), .int .i64 (0), .int .i64 (0)] T) : ∃ f g : Nat → Ar, ∀ k, k < 4 → oneV shownBs 1 0 0 (f k) = (g k, 0) ∧
    (W.cell? ⟨b, k * 4, none⟩ = some (.int .i64 (f k).1) ∧ W.cell? ⟨b, k * 4 + 1, none⟩ = some (.int .i64 (f k).2.1) ∧ W.cell? ⟨b, k * 4 + 2, none⟩ = some (.int .i64 (f k).2.2.1) ∧ W.cell? ⟨b, k * 4 + 3, none⟩ = some (.int .i64 (f k).2.2.2)) ∧
    W.cell? ⟨c, k * 4, none⟩ = some (.int .i64 (g k).1) ∧ W.cell? ⟨c, k * 4 + 1, none⟩ = some (.int .i64 (g k).2.1) ∧ W.cell? ⟨c, k * 4 + 2, none⟩ = some (.int .i64 (g k).2.2.1) ∧ W.cell? ⟨c, k * 4 + 3, none⟩ = some (.int .i64 (g k).2.2.2) := by
  refine ⟨plF, wnF, fun k hk => ?_⟩
  match k, hk with
  | 0, _ => exact ⟨fkl0, ⟨hb.cell 0 rfl, hb.cell 1 rfl, hb.cell 2 rfl, hb.cell 3 rfl⟩, hc.cell 0 rfl, hc.cell 1 rfl, hc.cell 2 rfl, hc.cell 3 rfl⟩
  | 1, _ => exact ⟨fkl1, ⟨hb.cell 4 rfl, hb.cell 5 rfl, hb.cell 6 rfl, hb.cell 7 rfl⟩, hc.cell 4 rfl, hc.cell 5 rfl, hc.cell 6 rfl, hc.cell 7 rfl⟩
  | 2, _ => exact ⟨fkl2, ⟨hb.cell 8 rfl, hb.cell 9 rfl, hb.cell 10 rfl, hb.cell 11 rfl⟩, hc.cell 8 rfl, hc.cell 9 rfl, hc.cell 10 rfl, hc.cell 11 rfl⟩
  | 3, _ => exact ⟨fkl3, ⟨hb.cell 12 rfl, hb.cell 13 rfl, hb.cell 14 rfl, hb.cell 15 rfl⟩, hc.cell 12 rfl, hc.cell 13 rfl, hc.cell 14 rfl, hc.cell 15 rfl⟩

set_option maxRecDepth 100000 in
set_option maxHeartbeats 100000000 in
theorem fknown_law (w : World) : Gives Try.prog 9 #[] w (.bool true) := by
  (unfold Gives; go_enter Try.func9, Try.ntmps9)
  go_wp2_with fail
  go_at_call 18
  refine (awake_any _).mono ?_
  intro p1
  go_wp2_with fail
  go_at_call 40
  refine (shown_any _).mono ?_
  rintro _ W0 ⟨sa, sn, sc, p2, rfl, hbod, hW0⟩
  have hu0 : Up w W0 := by rw [hW0]; exact (by repeat (first | with_reducible exact Up.refl _ | with_reducible apply Up.plus | apply Up.ext | apply Up.alloc | apply Up.drew | (refine Up.setCell ?_ (by simp; try omega) _)))
  have hww := hu0.below.size
  clear hW0
  go_wp2_with fail
  go_at_call 25
  refine (xof_any _ _ _).mono ?_
  intro q1
  go_wp2_with fail
  go_at_call 25
  refine (xof_any _ _ _).mono ?_
  intro q2
  go_wp2_with fail
  go_at_call 15
  obtain ⟨N1, hN1⟩ : ∃ T, W0.heap.size + (q1.plus q2).os.size = T := ⟨_, rfl⟩
  rw [hN1]
  refine forgetE (fun Y => Up W0 Y ∧ Box Y N1 #[.slice sa sn sc, .int .i64 1] 34 ∧ Box Y (N1 + 1) #[.int .i64 (0), .int .i64 (100), .int .i64 (-10), .int .i64 (10), .int .i64 (1)] 54) ⟨(by repeat (first | with_reducible exact Up.refl _ | with_reducible apply Up.plus | apply Up.ext | apply Up.alloc | apply Up.drew | (refine Up.setCell ?_ (by simp; try omega) _))), by rw [← hN1]; exact (by repeat (first | exact Box.mk rfl | (refine Box.mk ?_; simp; done) | apply Box.ext | apply Box.drew | apply Box.alloc | apply Box.two1 | (refine Box.other ?_ (by omega) _ _))), by rw [← hN1]; exact (by repeat (first | exact Box.mk rfl | (refine Box.mk ?_; simp; done) | apply Box.ext | apply Box.drew | apply Box.alloc | apply Box.two1 | (refine Box.other ?_ (by omega) _ _)))⟩ ?_
  rintro W1 ⟨hu1, b1, b2⟩
  clear hN1
  refine (xat_any _ _ _).mono ?_
  intro q3
  go_wp2_with fail
  go_at_call 15
  refine (xat_any _ _ _).mono ?_
  intro q4
  go_wp2_with fail
  go_at_call 15
  refine (xat_any _ _ _).mono ?_
  intro q5
  go_wp2_with fail
  go_at_call 13
  refine (xarea_any _ _ _ _ _).mono ?_
  intro q6
  go_wp2_with fail
  go_at_call 15
  obtain ⟨N3, hN3⟩ : ∃ T, W1.heap.size + (((q3.plus q4).plus q5).plus q6).os.size = T := ⟨_, rfl⟩
  rw [hN3]
  refine forgetE (fun Y => Up W1 Y ∧ Box Y N3 #[.int .i64 (50), .int .i64 (50), .int .i64 (0), .int .i64 (0), .int .i64 (30), .int .i64 (30), .int .i64 (40), .int .i64 (40), .int .i64 (1), .int .i64 (1), .int .i64 (1), .int .i64 (1), .int .i64 (40), .int .i64 (50), .int .i64 (0), .int .i64 (0)] 38) ⟨(by repeat (first | with_reducible exact Up.refl _ | with_reducible apply Up.plus | apply Up.ext | apply Up.alloc | apply Up.drew | (refine Up.setCell ?_ (by simp; try omega) _))), by rw [← hN3]; exact (by repeat (first | exact Box.mk rfl | (refine Box.mk ?_; simp; done) | apply Box.ext | apply Box.drew | apply Box.alloc | apply Box.two1 | (refine Box.other ?_ (by omega) _ _)))⟩ ?_
  rintro W2 ⟨hu2, b3⟩
  clear hN3
  refine (xat_any _ _ _).mono ?_
  intro q7
  go_wp2_with fail
  go_at_call 15
  refine (xat_any _ _ _).mono ?_
  intro q8
  go_wp2_with fail
  go_at_call 15
  refine (xat_any _ _ _).mono ?_
  intro q9
  go_wp2_with fail
  go_at_call 13
  refine (xarea_any _ _ _ _ _).mono ?_
  intro q10
  go_wp2_with fail
  obtain ⟨N4, hN4⟩ : ∃ T, W2.heap.size + (((q7.plus q8).plus q9).plus q10).os.size = T := ⟨_, rfl⟩
  rw [hN4]
  refine forgetW (fun Y => Up W2 Y ∧ Box Y N4 #[.int .i64 (-400), .int .i64 (-400), .int .i64 (0), .int .i64 (0), .int .i64 (-240), .int .i64 (-240), .int .i64 (-320), .int .i64 (-320), .int .i64 (-1000), .int .i64 (-1000), .int .i64 (-1000), .int .i64 (-1000), .int .i64 (-782), .int .i64 (-320), .int .i64 (0), .int .i64 (0)] 38) ⟨(by repeat (first | with_reducible exact Up.refl _ | with_reducible apply Up.plus | apply Up.ext | apply Up.alloc | apply Up.drew | (refine Up.setCell ?_ (by simp; try omega) _))), by rw [← hN4]; exact (by repeat (first | exact Box.mk rfl | (refine Box.mk ?_; simp; done) | apply Box.ext | apply Box.drew | apply Box.alloc | apply Box.two1 | (refine Box.other ?_ (by omega) _ _)))⟩ ?_
  rintro W3 ⟨hu3, b4⟩
  clear hN4
  have HW := hide (And.intro ((hu0.trans hu1).trans (hu2.trans hu3)) (And.intro (b1.up (hu2.trans hu3)) (And.intro (b2.up (hu2.trans hu3)) (And.intro (b3.up hu3) b4))))
  have HBD := hide (hbod.keeps ((hu1.trans (hu2.trans hu3)).keeps _))
  have hlW := HW.out.1.below.size
  clear hu0 hu1 hu2 hu3 b1 b2 b3 b4 hbod hww
  obtain ⟨f, g, hfg⟩ := fk_facts HW.out.2.2.2.1 HW.out.2.2.2.2
  have KL := hide (fun (k : Nat) (hk : k < 4) W' (hu : Up W3 W') => one_at2 (HBD.out.keeps (hu.keeps _)) i64_one (hfg k hk).1)
  have hN3l := HW.out.2.2.2.1.lt
  have hN4l := HW.out.2.2.2.2.lt
  have HFG := hide (show ∀ W', Up W3 W' → ∀ k, k < 4 → (W'.cell? ⟨N3, k * 4, none⟩ = some (.int .i64 (f k).1) ∧ W'.cell? ⟨N3, k * 4 + 1, none⟩ = some (.int .i64 (f k).2.1) ∧ W'.cell? ⟨N3, k * 4 + 2, none⟩ = some (.int .i64 (f k).2.2.1) ∧ W'.cell? ⟨N3, k * 4 + 3, none⟩ = some (.int .i64 (f k).2.2.2)) ∧
      W'.cell? ⟨N4, k * 4, none⟩ = some (.int .i64 (g k).1) ∧ W'.cell? ⟨N4, k * 4 + 1, none⟩ = some (.int .i64 (g k).2.1) ∧ W'.cell? ⟨N4, k * 4 + 2, none⟩ = some (.int .i64 (g k).2.2.1) ∧ W'.cell? ⟨N4, k * 4 + 3, none⟩ = some (.int .i64 (g k).2.2.2) from fun W' hu k hk =>
    have c : ∀ (b j : Nat) (v : Value), b < W3.heap.size → W3.cell? ⟨b, j, none⟩ = some v → W'.cell? ⟨b, j, none⟩ = some v := fun b j v hb hv => (World.cell?_of_block (a := ⟨b, j, none⟩) (hu.below.block b hb)).trans hv
    have h := (hfg k hk).2
    ⟨⟨c _ _ _ hN3l h.1.1, c _ _ _ hN3l h.1.2.1, c _ _ _ hN3l h.1.2.2.1, c _ _ _ hN3l h.1.2.2.2⟩, c _ _ _ hN4l h.2.1, c _ _ _ hN4l h.2.2.1, c _ _ _ hN4l h.2.2.2.1, c _ _ _ hN4l h.2.2.2.2⟩)
  clear hfg
  go_loopw [5] (fun s5 wr => ∃ k : Nat, s5 = .int .i64 k ∧ k ≤ 4 ∧ Hid (Up W3 wr)) (fun q _ => 4 - (intOf q).toNat)
  case atStart => exact ⟨0, by go_num, by omega, hide (Up.refl _)⟩
  case round =>
    obtain ⟨k, rfl, hk, hw⟩ := hrel
    by_cases hlt : k < 4
    · have hkb : decide ((k : Int) < 4) = true := by simp; omega
      have hkn : decide (k < 4) = true := by simp; omega
      obtain ⟨⟨c0, c1, c2, c3⟩, _⟩ := HFG.out _ hw.out k hlt
      have KK := hide (KL.out k hlt)
      have bw := HW.out.2.1.up hw.out
      have cw0 := bw.cell 0 rfl
      have cw1 := bw.cell 1 rfl
      have lcw := bw.lt
      have hWw := hw.out.below.size
      clear bw
      go_wp2_with fail
      refine wp_region_floatz (al := [(9, 6, #[.int .i64 (0), .int .i64 (0), .int .i64 (0), .int .i64 (0)], 38)]) (mv := fun _ => false) 8 [10, 11] [0, 1, 2, 3, 4, 5, 6, 7, 8] (by kernel_rfl) (by kernel_rfl) rfl (fun _ => rfl) (fun _ _ _ _ h => h) (makes1 ⟨_, rfl, rfl, fun _ => rfl, fun _ _ => by simp [go_sem]⟩) (cls_ext _) (by first | exact drew_in2 _ _ | exact drew_in _) (Nat.le_refl _) ?_
      simp only [withOps, List.filterMap_cons, List.filterMap_nil, List.getElem?_toArray, List.getElem?_cons_zero, List.getElem?_cons_succ, Option.map_some]
      (repeat (first | (apply walkF_pure (base := fun p : Ext => ext _ p) rfl rfl rfl (by kernel_rfl); · (intro px K hK; go_big_quiet_op; first | exact hK | (apply Exists.intro; refine ⟨fun _ => ?_, ?_⟩; (· ((go_at_call 14; with_reducible exact Gives.inFloat (KK.out _ (Up.ext hw.out _))))); exact hK))) | (apply walkF_skip rfl; simp only [Act.put, List.setIfInBounds_toArray, List.set_cons_zero, List.set_cons_succ])))
      refine walkF_lazy (.int .i64 0) rfl rfl (fun _ => by simp [go_sem]) ?_
      simp only [Act.put, List.setIfInBounds_toArray, List.set_cons_zero, List.set_cons_succ]
      refine walkF_nil (end1 (fun Q U hq hU bq => ?_))
      simp only [Act.put, List.setIfInBounds_toArray, List.set_cons_zero, List.set_cons_succ]
      (try simp only [List.filterMap_cons, List.filterMap_nil, List.getElem?_toArray, List.getElem?_cons_zero, List.getElem?_cons_succ])
      have hU1 : Up wr U := hU
      have HQ := hide (And.intro (hw.out.trans hU1) bq)
      have cq0 := bq.cell 0 rfl
      have cq1 := bq.cell 1 rfl
      have cq2 := bq.cell 2 rfl
      have cq3 := bq.cell 3 rfl
      have lcq := bq.lt
      have fcq0 := bq.frozen 0
      have fcq1 := bq.frozen 1
      have fcq2 := bq.frozen 2
      have fcq3 := bq.frozen 3
      have hq3 : W3.heap.size ≤ Q := by omega
      clear c0 c1 c2 c3 cw0 cw1 lcw hU hU1 bq
      go_wp2_with fail
      refine forgetW (fun Y => Up W3 Y ∧ Box Y Q #[.int .i64 (g k).1, .int .i64 (g k).2.1, .int .i64 (g k).2.2.1, .int .i64 (g k).2.2.2] 38) ⟨?_, ?_⟩ ?_
      · exact (by repeat (first | with_reducible exact HQ.out.1 | with_reducible exact Up.refl _ | with_reducible apply Up.ext | with_reducible apply Up.alloc | with_reducible apply Up.drew | (with_reducible refine Up.setCell ?_ (by simp only; omega) _)))
      · exact (by (repeat (first | with_reducible apply Box.ext | with_reducible apply Box.alloc | with_reducible apply Box.drew)); exact ((((HQ.out.2.set 0 (.int .i64 (g k).1)).set 1 (.int .i64 (g k).2.1)).set 2 (.int .i64 (g k).2.2.1)).set 3 (.int .i64 (g k).2.2.2)))
      rintro Z1 ⟨hz, bq⟩
      clear HQ cq0 cq1 cq2 cq3 lcq fcq0 fcq1 fcq2 fcq3
      obtain ⟨_, c0, c1, c2, c3⟩ := HFG.out _ hz k hlt
      have cq0 := bq.cell 0 rfl
      have cq1 := bq.cell 1 rfl
      have cq2 := bq.cell 2 rfl
      have cq3 := bq.cell 3 rfl
      have lcq := bq.lt
      have lN4 : N4 < Z1.heap.size := Nat.lt_of_lt_of_le hN4l hz.below.size
      replace hz := hide hz
      clear bq
      ((first | with_reducible refine wp_region_ext2 (by kernel_rfl) (by kernel_rfl) ?_ | refine wp_region_ext (by kernel_rfl) (by kernel_rfl) ?_); (repeat (go_big_quiet_step (fail))); refine wpQuiet_nil ?_; intro _ hw'; obtain ⟨_, hw''⟩ := hw'; subst hw'')
      go_wp2
      go_roundw
      case rel => exact ⟨k + 1, by go_num, by omega, hide (by repeat (first | with_reducible exact hz.out | with_reducible exact Up.refl _ | apply Up.ext | apply Up.alloc | apply Up.drew | (refine Up.setCell ?_ (by simp [World.setCell]; try omega) _)))⟩
      case measure => simp [intOf]; omega
    · have hkb : decide ((k : Int) < 4) = false := by simp; omega
      clear KL HFG hk hlt
      have K12 := hide (fun W' (hu : Up W3 W') => one_at2 (HBD.out.keeps (hu.keeps _)) i64_one fk1)
      have K13 := hide (fun W' (hu : Up W3 W') => one_at2 (HBD.out.keeps (hu.keeps _)) i64_one fk2)
      have K14 := hide (fun W' (hu : Up W3 W') => over_at (HBD.out.keeps (hu.keeps _)) i64_one fk3)
      have K16 := hide (fun W' (hu : Up W3 W') => light_at (HBD.out.keeps (hu.keeps _)) i64_one fk4)
      have K17 := hide (fun W' (hu : Up W3 W') => heat_at (HBD.out.keeps (hu.keeps _)) i64_one fk5)
      have K18 := hide (fun W' (hu : Up W3 W') => pull_at2 (HBD.out.keeps (hu.keeps _)) i64_one fk6)
      have K20 := hide (fun W' (hu : Up W3 W') => energy_at2 (HBD.out.keeps (hu.keeps _)) i64_one fk7)
      have K21 := hide (fun W' (hu : Up W3 W') => ruler_at2 (HBD.out.keeps (hu.keeps _)) i64_one fk8)
      have K22 := hide (fun W' (hu : Up W3 W') => ruler_at2 (HBD.out.keeps (hu.keeps _)) i64_one fk9)
      have K27 := hide (fun W' (hu : Up W3 W') => one_at2 (HBD.out.keeps (hu.keeps _)) i64_one fk11)
      have K28 := hide (fun W' (hu : Up W3 W') => one_at2 (HBD.out.keeps (hu.keeps _)) i64_one fk12)
      have bw := HW.out.2.1.up hw.out
      have cw0 := bw.cell 0 rfl
      have cw1 := bw.cell 1 rfl
      have lcw := bw.lt
      clear bw
      have hWw := hw.out.below.size
      go_wp2_with fail
      refine wp_region_floatz (al := [(6, 8, #[.int .i64 (0), .int .i64 (0), .int .i64 (0), .int .i64 (0)], 38)]) (mv := fun _ => false) 5 [7, 8] [0, 1, 2, 3, 4, 5] (by kernel_rfl) (by kernel_rfl) rfl (fun _ => rfl) (fun _ _ _ _ h => h) (makes1 ⟨_, rfl, rfl, fun _ => rfl, fun _ _ => by simp [go_sem]⟩) (cls_ext _) (by first | exact drew_in2 _ _ | exact drew_in _) (Nat.le_refl _) ?_
      simp only [withOps, List.filterMap_cons, List.filterMap_nil, List.getElem?_toArray, List.getElem?_cons_zero, List.getElem?_cons_succ, Option.map_some]
      (repeat (first | (apply walkF_pure (base := fun p : Ext => ext _ p) rfl rfl rfl (by kernel_rfl); · (intro px K hK; go_big_quiet_op; first | exact hK | (apply Exists.intro; refine ⟨fun _ => ?_, ?_⟩; (· ((first | (go_at_call 15; with_reducible exact Gives.inFloat (xat_any _ _ _)) | (go_at_call 14; with_reducible exact Gives.inFloat (K12.out _ (Up.ext hw.out _)))))); exact hK))) | (apply walkF_skip rfl; simp only [Act.put, List.setIfInBounds_toArray, List.set_cons_zero, List.set_cons_succ])))
      refine walkF_lazy (.int .i64 0) rfl rfl (fun _ => by simp [go_sem]) ?_
      simp only [Act.put, List.setIfInBounds_toArray, List.set_cons_zero, List.set_cons_succ]
      refine walkF_nil (end1 (fun Q8 U hq hU bq => ?_))
      simp only [Act.put, List.setIfInBounds_toArray, List.set_cons_zero, List.set_cons_succ]
      (try simp only [List.filterMap_cons, List.filterMap_nil, List.getElem?_toArray, List.getElem?_cons_zero, List.getElem?_cons_succ])
      have hU1 : Up wr U := hU
      have HQ := hide (And.intro (hw.out.trans hU1) (And.intro trivial bq))
      have cq0 := bq.cell 0 rfl
      have cq1 := bq.cell 1 rfl
      have cq2 := bq.cell 2 rfl
      have cq3 := bq.cell 3 rfl
      have lcq := bq.lt
      have fcq0 := bq.frozen 0
      have fcq1 := bq.frozen 1
      have fcq2 := bq.frozen 2
      have fcq3 := bq.frozen 3
      have hlQ8 : W3.heap.size ≤ Q8 := by omega
      have m1Q8 : N1 ≠ Q8 := by have := HW.out.2.1.lt; omega
      have m2Q8 : N1 + 1 ≠ Q8 := by have := HW.out.2.2.1.lt; omega
      clear cw0 cw1 lcw hU hU1 bq hWw
      go_wp2_with fail
      refine forgetW (fun Y => Up W3 Y ∧ Box Y Q8 #[.int .i64 (4), .int .i64 (4), .int .i64 (0), .int .i64 (0)] 38) ⟨?_, ?_⟩ ?_
      · exact (by repeat (first | with_reducible exact HQ.out.1 | with_reducible exact Up.refl _ | with_reducible apply Up.ext | with_reducible apply Up.alloc | with_reducible apply Up.drew | (with_reducible refine Up.setCell ?_ (by simp only; omega) _)))
      · exact (by (repeat (first | with_reducible apply Box.ext | with_reducible apply Box.alloc | with_reducible apply Box.drew)); exact ((((HQ.out.2.2.set 0 (.int .i64 (4))).set 1 (.int .i64 (4))).set 2 (.int .i64 (0))).set 3 (.int .i64 (0))))
      rintro Z12 ⟨hw, hbQ8⟩
      replace hw := hide hw
      replace hbQ8 := hide hbQ8
      clear HQ hq cq0 cq1 cq2 cq3 lcq fcq0 fcq1 fcq2 fcq3
      have bw := HW.out.2.1.up hw.out
      have cw0 := bw.cell 0 rfl
      have cw1 := bw.cell 1 rfl
      have lcw := bw.lt
      clear bw
      have hWw := hw.out.below.size
      refine wp_region_floatz (al := [(6, 10, #[.int .i64 (0), .int .i64 (0), .int .i64 (0), .int .i64 (0)], 38)]) (mv := fun _ => false) 5 [7, 8] [0, 1, 2, 3, 4, 5] (by kernel_rfl) (by kernel_rfl) rfl (fun _ => rfl) (fun _ _ _ _ h => h) (makes1 ⟨_, rfl, rfl, fun _ => rfl, fun _ _ => by simp [go_sem]⟩) (cls_ext _) (by first | exact drew_in2 _ _ | exact drew_in _) (Nat.le_refl _) ?_
      simp only [withOps, List.filterMap_cons, List.filterMap_nil, List.getElem?_toArray, List.getElem?_cons_zero, List.getElem?_cons_succ, Option.map_some]
      (repeat (first | (apply walkF_pure (base := fun p : Ext => ext _ p) rfl rfl rfl (by kernel_rfl); · (intro px K hK; go_big_quiet_op; first | exact hK | (apply Exists.intro; refine ⟨fun _ => ?_, ?_⟩; (· ((first | (go_at_call 15; with_reducible exact Gives.inFloat (xat_any _ _ _)) | (go_at_call 14; with_reducible exact Gives.inFloat (K13.out _ (Up.ext hw.out _)))))); exact hK))) | (apply walkF_skip rfl; simp only [Act.put, List.setIfInBounds_toArray, List.set_cons_zero, List.set_cons_succ])))
      refine walkF_lazy (.int .i64 0) rfl rfl (fun _ => by simp [go_sem]) ?_
      simp only [Act.put, List.setIfInBounds_toArray, List.set_cons_zero, List.set_cons_succ]
      refine walkF_nil (end1 (fun Q10 U hq hU bq => ?_))
      simp only [Act.put, List.setIfInBounds_toArray, List.set_cons_zero, List.set_cons_succ]
      (try simp only [List.filterMap_cons, List.filterMap_nil, List.getElem?_toArray, List.getElem?_cons_zero, List.getElem?_cons_succ])
      have hU1 : Up Z12 U := hU
      have HQ := hide (And.intro (hw.out.trans hU1) (And.intro (And.intro (hbQ8.out.up hU1) trivial) bq))
      have nQ8Q10 : Q8 ≠ Q10 := by have := hbQ8.out.lt; omega
      have cq0 := bq.cell 0 rfl
      have cq1 := bq.cell 1 rfl
      have cq2 := bq.cell 2 rfl
      have cq3 := bq.cell 3 rfl
      have lcq := bq.lt
      have fcq0 := bq.frozen 0
      have fcq1 := bq.frozen 1
      have fcq2 := bq.frozen 2
      have fcq3 := bq.frozen 3
      have hlQ10 : W3.heap.size ≤ Q10 := by omega
      have m1Q10 : N1 ≠ Q10 := by have := HW.out.2.1.lt; omega
      have m2Q10 : N1 + 1 ≠ Q10 := by have := HW.out.2.2.1.lt; omega
      clear cw0 cw1 lcw hU hU1 bq hWw hbQ8
      go_wp2_with fail
      refine forgetW (fun Y => Up W3 Y ∧ Box Y Q8 #[.int .i64 (4), .int .i64 (4), .int .i64 (0), .int .i64 (0)] 38 ∧ Box Y Q10 #[.int .i64 (-1), .int .i64 (0), .int .i64 (0), .int .i64 (1)] 38) ⟨?_, ?_, ?_⟩ ?_
      · exact (by repeat (first | with_reducible exact HQ.out.1 | with_reducible exact Up.refl _ | with_reducible apply Up.ext | with_reducible apply Up.alloc | with_reducible apply Up.drew | (with_reducible refine Up.setCell ?_ (by simp only; omega) _)))
      · exact (by repeat (first | with_reducible exact HQ.out.2.1.1 | with_reducible apply Box.ext | with_reducible apply Box.alloc | with_reducible apply Box.drew | (with_reducible refine Box.other ?_ (by omega) _ _)))
      · exact (by (repeat (first | with_reducible apply Box.ext | with_reducible apply Box.alloc | with_reducible apply Box.drew)); exact ((((HQ.out.2.2.set 0 (.int .i64 (-1))).set 1 (.int .i64 (0))).set 2 (.int .i64 (0))).set 3 (.int .i64 (1))))
      rintro Z13 ⟨hw, hbQ8, hbQ10⟩
      replace hw := hide hw
      replace hbQ8 := hide hbQ8
      replace hbQ10 := hide hbQ10
      clear HQ hq cq0 cq1 cq2 cq3 lcq fcq0 fcq1 fcq2 fcq3
      have bw := HW.out.2.1.up hw.out
      have cw0 := bw.cell 0 rfl
      have cw1 := bw.cell 1 rfl
      have lcw := bw.lt
      clear bw
      have hWw := hw.out.below.size
      refine wp_region_floatz (al := [(7, 12, #[.int .i64 (0), .int .i64 (0), .int .i64 (0), .int .i64 (0)], 38)]) (mv := fun _ => false) 6 [8, 9] [0, 1, 2, 3, 4, 5, 6] (by kernel_rfl) (by kernel_rfl) rfl (fun _ => rfl) (fun _ _ _ _ h => h) (makes1 ⟨_, rfl, rfl, fun _ => rfl, fun _ _ => by simp [go_sem]⟩) (cls_ext _) (by first | exact drew_in2 _ _ | exact drew_in _) (Nat.le_refl _) ?_
      simp only [withOps, List.filterMap_cons, List.filterMap_nil, List.getElem?_toArray, List.getElem?_cons_zero, List.getElem?_cons_succ, Option.map_some]
      (repeat (first | (apply walkF_pure (base := fun p : Ext => ext _ p) rfl rfl rfl (by kernel_rfl); · (intro px K hK; go_big_quiet_op; first | exact hK | (apply Exists.intro; refine ⟨fun _ => ?_, ?_⟩; (· ((first | (go_at_call 15; with_reducible exact Gives.inFloat (xat_any _ _ _)) | (go_at_call 22; with_reducible exact Gives.inFloat (K14.out _ (Up.ext hw.out _)))))); exact hK))) | (apply walkF_skip rfl; simp only [Act.put, List.setIfInBounds_toArray, List.set_cons_zero, List.set_cons_succ])))
      refine walkF_lazy (.int .i64 0) rfl rfl (fun _ => by simp [go_sem]) ?_
      simp only [Act.put, List.setIfInBounds_toArray, List.set_cons_zero, List.set_cons_succ]
      refine walkF_nil (end1 (fun Q12 U hq hU bq => ?_))
      simp only [Act.put, List.setIfInBounds_toArray, List.set_cons_zero, List.set_cons_succ]
      (try simp only [List.filterMap_cons, List.filterMap_nil, List.getElem?_toArray, List.getElem?_cons_zero, List.getElem?_cons_succ])
      have hU1 : Up Z13 U := hU
      have HQ := hide (And.intro (hw.out.trans hU1) (And.intro (And.intro (hbQ8.out.up hU1) (And.intro (hbQ10.out.up hU1) trivial)) bq))
      have nQ8Q12 : Q8 ≠ Q12 := by have := hbQ8.out.lt; omega
      have nQ10Q12 : Q10 ≠ Q12 := by have := hbQ10.out.lt; omega
      have cq0 := bq.cell 0 rfl
      have cq1 := bq.cell 1 rfl
      have cq2 := bq.cell 2 rfl
      have cq3 := bq.cell 3 rfl
      have lcq := bq.lt
      have fcq0 := bq.frozen 0
      have fcq1 := bq.frozen 1
      have fcq2 := bq.frozen 2
      have fcq3 := bq.frozen 3
      have hlQ12 : W3.heap.size ≤ Q12 := by omega
      have m1Q12 : N1 ≠ Q12 := by have := HW.out.2.1.lt; omega
      have m2Q12 : N1 + 1 ≠ Q12 := by have := HW.out.2.2.1.lt; omega
      clear cw0 cw1 lcw hU hU1 bq hWw hbQ8 hbQ10
      go_wp2_with fail
      refine forgetW (fun Y => Up W3 Y ∧ Box Y Q8 #[.int .i64 (4), .int .i64 (4), .int .i64 (0), .int .i64 (0)] 38 ∧ Box Y Q10 #[.int .i64 (-1), .int .i64 (0), .int .i64 (0), .int .i64 (1)] 38 ∧ Box Y Q12 #[.int .i64 (-396), .int .i64 (-396), .int .i64 (0), .int .i64 (0)] 38) ⟨?_, ?_, ?_, ?_⟩ ?_
      · exact (by repeat (first | with_reducible exact HQ.out.1 | with_reducible exact Up.refl _ | with_reducible apply Up.ext | with_reducible apply Up.alloc | with_reducible apply Up.drew | (with_reducible refine Up.setCell ?_ (by simp only; omega) _)))
      · exact (by repeat (first | with_reducible exact HQ.out.2.1.1 | with_reducible apply Box.ext | with_reducible apply Box.alloc | with_reducible apply Box.drew | (with_reducible refine Box.other ?_ (by omega) _ _)))
      · exact (by repeat (first | with_reducible exact HQ.out.2.1.2.1 | with_reducible apply Box.ext | with_reducible apply Box.alloc | with_reducible apply Box.drew | (with_reducible refine Box.other ?_ (by omega) _ _)))
      · exact (by (repeat (first | with_reducible apply Box.ext | with_reducible apply Box.alloc | with_reducible apply Box.drew)); exact ((((HQ.out.2.2.set 0 (.int .i64 (-396))).set 1 (.int .i64 (-396))).set 2 (.int .i64 (0))).set 3 (.int .i64 (0))))
      rintro Z14 ⟨hw, hbQ8, hbQ10, hbQ12⟩
      replace hw := hide hw
      replace hbQ8 := hide hbQ8
      replace hbQ10 := hide hbQ10
      replace hbQ12 := hide hbQ12
      clear HQ hq cq0 cq1 cq2 cq3 lcq fcq0 fcq1 fcq2 fcq3
      have cQ80 := hbQ8.out.cell 0 rfl
      have cQ81 := hbQ8.out.cell 1 rfl
      have cQ82 := hbQ8.out.cell 2 rfl
      have cQ83 := hbQ8.out.cell 3 rfl
      have lcQ8 := hbQ8.out.lt
      have cQ100 := hbQ10.out.cell 0 rfl
      have cQ101 := hbQ10.out.cell 1 rfl
      have cQ102 := hbQ10.out.cell 2 rfl
      have cQ103 := hbQ10.out.cell 3 rfl
      have lcQ10 := hbQ10.out.lt
      have cQ120 := hbQ12.out.cell 0 rfl
      have cQ121 := hbQ12.out.cell 1 rfl
      have cQ122 := hbQ12.out.cell 2 rfl
      have cQ123 := hbQ12.out.cell 3 rfl
      have lcQ12 := hbQ12.out.lt
      ((first | with_reducible refine wp_region_ext2 (by kernel_rfl) (by kernel_rfl) ?_ | refine wp_region_ext (by kernel_rfl) (by kernel_rfl) ?_); (repeat (go_big_quiet_step ((first | (go_at_call 15; with_reducible exact Gives.inRegion (xat_any _ _ _)) | (go_at_call 13; with_reducible exact Gives.inRegion (xarea_any _ _ _ _ _)))))); refine wpQuiet_nil ?_; intro _ hw'; obtain ⟨_, hw''⟩ := hw'; subst hw'')
      clear cQ80 cQ81 cQ82 cQ83 lcQ8 cQ100 cQ101 cQ102 cQ103 lcQ10 cQ120 cQ121 cQ122 cQ123 lcQ12
      refine forgetW (fun Y => Up W3 Y ∧ Box Y Q8 #[.int .i64 (4), .int .i64 (4), .int .i64 (0), .int .i64 (0)] 38 ∧ Box Y Q10 #[.int .i64 (-1), .int .i64 (0), .int .i64 (0), .int .i64 (1)] 38 ∧ Box Y Q12 #[.int .i64 (-396), .int .i64 (-396), .int .i64 (0), .int .i64 (0)] 38) ⟨?_, ?_, ?_, ?_⟩ ?_
      · exact (by repeat (first | with_reducible exact hw.out | with_reducible exact Up.refl _ | with_reducible apply Up.ext | with_reducible apply Up.alloc | with_reducible apply Up.drew | (with_reducible refine Up.setCell ?_ (by simp only; omega) _)))
      · exact (by repeat (first | with_reducible exact hbQ8.out | with_reducible apply Box.ext | with_reducible apply Box.alloc | with_reducible apply Box.drew | (with_reducible refine Box.other ?_ (by omega) _ _)))
      · exact (by repeat (first | with_reducible exact hbQ10.out | with_reducible apply Box.ext | with_reducible apply Box.alloc | with_reducible apply Box.drew | (with_reducible refine Box.other ?_ (by omega) _ _)))
      · exact (by repeat (first | with_reducible exact hbQ12.out | with_reducible apply Box.ext | with_reducible apply Box.alloc | with_reducible apply Box.drew | (with_reducible refine Box.other ?_ (by omega) _ _)))
      rintro Z15 ⟨hw, hbQ8, hbQ10, hbQ12⟩
      replace hw := hide hw
      replace hbQ8 := hide hbQ8
      replace hbQ10 := hide hbQ10
      replace hbQ12 := hide hbQ12
      go_wp2_with fail
      have bw := HW.out.2.1.up hw.out
      have cw0 := bw.cell 0 rfl
      have cw1 := bw.cell 1 rfl
      have lcw := bw.lt
      clear bw
      have bd := HW.out.2.2.1.up hw.out
      have cd0 := bd.cell 0 rfl
      have cd1 := bd.cell 1 rfl
      have cd2 := bd.cell 2 rfl
      have cd3 := bd.cell 3 rfl
      have cd4 := bd.cell 4 rfl
      have lcd := bd.lt
      clear bd
      refine wp_region_floatz (al := []) (mv := fun _ => false) 6 [7, 8] [0, 1, 2, 3, 4, 5, 6] (by kernel_rfl) (by kernel_rfl) rfl (fun _ => rfl) (fun _ _ _ _ h => h) makes0 (cls_ext _) (by first | exact drew_in2 _ _ | exact drew_in _) (Nat.le_refl _) ?_
      simp only [withOps, List.filterMap_cons, List.filterMap_nil, List.getElem?_toArray, List.getElem?_cons_zero, List.getElem?_cons_succ, Option.map_some]
      (repeat (first | (apply walkF_pure (base := fun p : Ext => ext _ p) rfl rfl rfl (by kernel_rfl); · (intro px K hK; go_big_quiet_op; first | exact hK | (apply Exists.intro; refine ⟨fun _ => ?_, ?_⟩; (· ((first | (go_at_call 15; with_reducible exact Gives.inFloat (xat_any _ _ _)) | (go_at_call 31; with_reducible exact Gives.inFloat (K16.out _ (Up.ext hw.out _)))))); exact hK))) | (apply walkF_skip rfl; simp only [Act.put, List.setIfInBounds_toArray, List.set_cons_zero, List.set_cons_succ])))
      refine walkF_lazy (.int .i64 0) rfl rfl (fun _ => by simp [go_sem]) ?_
      simp only [Act.put, List.setIfInBounds_toArray, List.set_cons_zero, List.set_cons_succ]
      refine walkF_nil (end0 (fun U hU => ?_))
      (try simp only [List.filterMap_cons, List.filterMap_nil, List.getElem?_toArray, List.getElem?_cons_zero, List.getElem?_cons_succ])
      have hU1 : Up Z15 U := hU
      have hwU := hide (hw.out.trans hU1)
      have huQ8 := hide (hbQ8.out.up hU1)
      have huQ10 := hide (hbQ10.out.up hU1)
      have huQ12 := hide (hbQ12.out.up hU1)
      clear cw0 cw1 lcw cd0 cd1 cd2 cd3 cd4 lcd hU hU1 hw hbQ8 hbQ10 hbQ12
      have cq0 := huQ8.out.cell 0 rfl
      have cq1 := huQ8.out.cell 1 rfl
      have cq2 := huQ8.out.cell 2 rfl
      have cq3 := huQ8.out.cell 3 rfl
      have lcq := huQ8.out.lt
      have fcq0 := huQ8.out.frozen 0
      have fcq1 := huQ8.out.frozen 1
      have fcq2 := huQ8.out.frozen 2
      have fcq3 := huQ8.out.frozen 3
      go_wp2_with fail
      refine forgetW (fun Y => Up W3 Y ∧ Box Y Q8 #[.int .i64 (0), .int .i64 (40), .int .i64 (0), .int .i64 (0)] 38 ∧ Box Y Q10 #[.int .i64 (-1), .int .i64 (0), .int .i64 (0), .int .i64 (1)] 38 ∧ Box Y Q12 #[.int .i64 (-396), .int .i64 (-396), .int .i64 (0), .int .i64 (0)] 38) ⟨?_, ?_, ?_, ?_⟩ ?_
      · exact (by repeat (first | with_reducible exact hwU.out | with_reducible exact Up.refl _ | with_reducible apply Up.ext | with_reducible apply Up.alloc | with_reducible apply Up.drew | (with_reducible refine Up.setCell ?_ (by simp only; omega) _)))
      · exact ((((huQ8.out.set 0 (.int .i64 (0))).set 1 (.int .i64 (40))).set 2 (.int .i64 (0))).set 3 (.int .i64 (0)))
      · exact (by repeat (first | with_reducible exact huQ10.out | with_reducible apply Box.ext | with_reducible apply Box.alloc | with_reducible apply Box.drew | (with_reducible refine Box.other ?_ (by omega) _ _)))
      · exact (by repeat (first | with_reducible exact huQ12.out | with_reducible apply Box.ext | with_reducible apply Box.alloc | with_reducible apply Box.drew | (with_reducible refine Box.other ?_ (by omega) _ _)))
      rintro Z16 ⟨hw, hbQ8, hbQ10, hbQ12⟩
      replace hw := hide hw
      replace hbQ8 := hide hbQ8
      replace hbQ10 := hide hbQ10
      replace hbQ12 := hide hbQ12
      clear hwU cq0 cq1 cq2 cq3 lcq fcq0 fcq1 fcq2 fcq3 huQ8 huQ10 huQ12
      have bw := HW.out.2.1.up hw.out
      have cw0 := bw.cell 0 rfl
      have cw1 := bw.cell 1 rfl
      have lcw := bw.lt
      clear bw
      have bd := HW.out.2.2.1.up hw.out
      have cd0 := bd.cell 0 rfl
      have cd1 := bd.cell 1 rfl
      have cd2 := bd.cell 2 rfl
      have cd3 := bd.cell 3 rfl
      have cd4 := bd.cell 4 rfl
      have lcd := bd.lt
      clear bd
      refine wp_region_floatz (al := []) (mv := fun _ => false) 6 [7, 8] [0, 1, 2, 3, 4, 5, 6] (by kernel_rfl) (by kernel_rfl) rfl (fun _ => rfl) (fun _ _ _ _ h => h) makes0 (cls_ext _) (by first | exact drew_in2 _ _ | exact drew_in _) (Nat.le_refl _) ?_
      simp only [withOps, List.filterMap_cons, List.filterMap_nil, List.getElem?_toArray, List.getElem?_cons_zero, List.getElem?_cons_succ, Option.map_some]
      (repeat (first | (apply walkF_pure (base := fun p : Ext => ext _ p) rfl rfl rfl (by kernel_rfl); · (intro px K hK; go_big_quiet_op; first | exact hK | (apply Exists.intro; refine ⟨fun _ => ?_, ?_⟩; (· ((first | (go_at_call 15; with_reducible exact Gives.inFloat (xat_any _ _ _)) | (go_at_call 32; with_reducible exact Gives.inFloat (K17.out _ (Up.ext hw.out _)))))); exact hK))) | (apply walkF_skip rfl; simp only [Act.put, List.setIfInBounds_toArray, List.set_cons_zero, List.set_cons_succ])))
      refine walkF_lazy (.int .i64 0) rfl rfl (fun _ => by simp [go_sem]) ?_
      simp only [Act.put, List.setIfInBounds_toArray, List.set_cons_zero, List.set_cons_succ]
      refine walkF_nil (end0 (fun U hU => ?_))
      (try simp only [List.filterMap_cons, List.filterMap_nil, List.getElem?_toArray, List.getElem?_cons_zero, List.getElem?_cons_succ])
      have hU1 : Up Z16 U := hU
      have hwU := hide (hw.out.trans hU1)
      have huQ8 := hide (hbQ8.out.up hU1)
      have huQ10 := hide (hbQ10.out.up hU1)
      have huQ12 := hide (hbQ12.out.up hU1)
      clear cw0 cw1 lcw cd0 cd1 cd2 cd3 cd4 lcd hU hU1 hw hbQ8 hbQ10 hbQ12
      have cq0 := huQ10.out.cell 0 rfl
      have cq1 := huQ10.out.cell 1 rfl
      have cq2 := huQ10.out.cell 2 rfl
      have cq3 := huQ10.out.cell 3 rfl
      have lcq := huQ10.out.lt
      have fcq0 := huQ10.out.frozen 0
      have fcq1 := huQ10.out.frozen 1
      have fcq2 := huQ10.out.frozen 2
      have fcq3 := huQ10.out.frozen 3
      have bw := HW.out.2.1.up hwU.out
      have cw0 := bw.cell 0 rfl
      have cw1 := bw.cell 1 rfl
      have lcw := bw.lt
      clear bw
      have bd := HW.out.2.2.1.up hwU.out
      have cd0 := bd.cell 0 rfl
      have cd1 := bd.cell 1 rfl
      have cd2 := bd.cell 2 rfl
      have cd3 := bd.cell 3 rfl
      have cd4 := bd.cell 4 rfl
      have lcd := bd.lt
      clear bd
      go_wp2_with fail
      go_at_call 35
      refine forgetE (fun Y => Up W3 Y ∧ Box Y Q8 #[.int .i64 (0), .int .i64 (40), .int .i64 (0), .int .i64 (0)] 38 ∧ Box Y Q10 #[.int .i64 (0), .int .i64 (0), .int .i64 (-4), .int .i64 (4)] 38 ∧ Box Y Q12 #[.int .i64 (-396), .int .i64 (-396), .int .i64 (0), .int .i64 (0)] 38) ⟨?_, ?_, ?_, ?_⟩ ?_
      · exact (by repeat (first | with_reducible exact hwU.out | with_reducible exact Up.refl _ | with_reducible apply Up.ext | with_reducible apply Up.alloc | with_reducible apply Up.drew | (with_reducible refine Up.setCell ?_ (by simp only; omega) _)))
      · exact (by repeat (first | with_reducible exact huQ8.out | with_reducible apply Box.ext | with_reducible apply Box.alloc | with_reducible apply Box.drew | (with_reducible refine Box.other ?_ (by omega) _ _)))
      · exact ((((huQ10.out.set 0 (.int .i64 (0))).set 1 (.int .i64 (0))).set 2 (.int .i64 (-4))).set 3 (.int .i64 (4)))
      · exact (by repeat (first | with_reducible exact huQ12.out | with_reducible apply Box.ext | with_reducible apply Box.alloc | with_reducible apply Box.drew | (with_reducible refine Box.other ?_ (by omega) _ _)))
      rintro Z17 ⟨hw, hbQ8, hbQ10, hbQ12⟩
      replace hw := hide hw
      replace hbQ8 := hide hbQ8
      replace hbQ10 := hide hbQ10
      replace hbQ12 := hide hbQ12
      clear hwU cq0 cq1 cq2 cq3 lcq fcq0 fcq1 fcq2 fcq3 huQ8 huQ10 huQ12 cw0 cw1 lcw cd0 cd1 cd2 cd3 cd4 lcd
      refine (K18.out _ hw.out).mono ?_
      intro p18
      have cq0 := hbQ12.out.cell 0 rfl
      have cq1 := hbQ12.out.cell 1 rfl
      have cq2 := hbQ12.out.cell 2 rfl
      have cq3 := hbQ12.out.cell 3 rfl
      have lcq := hbQ12.out.lt
      have fcq0 := hbQ12.out.frozen 0
      have fcq1 := hbQ12.out.frozen 1
      have fcq2 := hbQ12.out.frozen 2
      have fcq3 := hbQ12.out.frozen 3
      go_wp2_with fail
      refine forgetW (fun Y => Up W3 Y ∧ Box Y Q8 #[.int .i64 (0), .int .i64 (40), .int .i64 (0), .int .i64 (0)] 38 ∧ Box Y Q10 #[.int .i64 (0), .int .i64 (0), .int .i64 (-4), .int .i64 (4)] 38 ∧ Box Y Q12 #[.int .i64 (-397), .int .i64 (-355), .int .i64 (-5), .int .i64 (5)] 38) ⟨?_, ?_, ?_, ?_⟩ ?_
      · exact (by repeat (first | with_reducible exact hw.out | with_reducible exact Up.refl _ | with_reducible apply Up.ext | with_reducible apply Up.alloc | with_reducible apply Up.drew | (with_reducible refine Up.setCell ?_ (by simp only; omega) _)))
      · exact (by repeat (first | with_reducible exact hbQ8.out | with_reducible apply Box.ext | with_reducible apply Box.alloc | with_reducible apply Box.drew | (with_reducible refine Box.other ?_ (by omega) _ _)))
      · exact (by repeat (first | with_reducible exact hbQ10.out | with_reducible apply Box.ext | with_reducible apply Box.alloc | with_reducible apply Box.drew | (with_reducible refine Box.other ?_ (by omega) _ _)))
      · exact (by (repeat (first | with_reducible apply Box.ext | with_reducible apply Box.alloc | with_reducible apply Box.drew)); exact ((((hbQ12.out.set 0 (.int .i64 (-397))).set 1 (.int .i64 (-355))).set 2 (.int .i64 (-5))).set 3 (.int .i64 (5))))
      rintro Z18 ⟨hw, hbQ8, hbQ10, hbQ12⟩
      replace hw := hide hw
      replace hbQ8 := hide hbQ8
      replace hbQ10 := hide hbQ10
      replace hbQ12 := hide hbQ12
      clear cq0 cq1 cq2 cq3 lcq fcq0 fcq1 fcq2 fcq3
      have cQ80 := hbQ8.out.cell 0 rfl
      have cQ81 := hbQ8.out.cell 1 rfl
      have cQ82 := hbQ8.out.cell 2 rfl
      have cQ83 := hbQ8.out.cell 3 rfl
      have lcQ8 := hbQ8.out.lt
      have cQ100 := hbQ10.out.cell 0 rfl
      have cQ101 := hbQ10.out.cell 1 rfl
      have cQ102 := hbQ10.out.cell 2 rfl
      have cQ103 := hbQ10.out.cell 3 rfl
      have lcQ10 := hbQ10.out.lt
      have cQ120 := hbQ12.out.cell 0 rfl
      have cQ121 := hbQ12.out.cell 1 rfl
      have cQ122 := hbQ12.out.cell 2 rfl
      have cQ123 := hbQ12.out.cell 3 rfl
      have lcQ12 := hbQ12.out.lt
      ((first | with_reducible refine wp_region_ext2 (by kernel_rfl) (by kernel_rfl) ?_ | refine wp_region_ext (by kernel_rfl) (by kernel_rfl) ?_); (repeat (go_big_quiet_step ((go_at_call 13; with_reducible exact Gives.inRegion (xarea_any _ _ _ _ _))))); refine wpQuiet_nil ?_; intro _ hw'; obtain ⟨_, hw''⟩ := hw'; subst hw'')
      clear cQ80 cQ81 cQ82 cQ83 lcQ8 cQ100 cQ101 cQ102 cQ103 lcQ10 cQ120 cQ121 cQ122 cQ123 lcQ12
      refine forgetW (fun Y => Up W3 Y ∧ Box Y Q8 #[.int .i64 (0), .int .i64 (40), .int .i64 (0), .int .i64 (0)] 38 ∧ Box Y Q10 #[.int .i64 (0), .int .i64 (0), .int .i64 (-4), .int .i64 (4)] 38 ∧ Box Y Q12 #[.int .i64 (-397), .int .i64 (-355), .int .i64 (-5), .int .i64 (5)] 38) ⟨?_, ?_, ?_, ?_⟩ ?_
      · exact (by repeat (first | with_reducible exact hw.out | with_reducible exact Up.refl _ | with_reducible apply Up.ext | with_reducible apply Up.alloc | with_reducible apply Up.drew | (with_reducible refine Up.setCell ?_ (by simp only; omega) _)))
      · exact (by repeat (first | with_reducible exact hbQ8.out | with_reducible apply Box.ext | with_reducible apply Box.alloc | with_reducible apply Box.drew | (with_reducible refine Box.other ?_ (by omega) _ _)))
      · exact (by repeat (first | with_reducible exact hbQ10.out | with_reducible apply Box.ext | with_reducible apply Box.alloc | with_reducible apply Box.drew | (with_reducible refine Box.other ?_ (by omega) _ _)))
      · exact (by repeat (first | with_reducible exact hbQ12.out | with_reducible apply Box.ext | with_reducible apply Box.alloc | with_reducible apply Box.drew | (with_reducible refine Box.other ?_ (by omega) _ _)))
      rintro Z19 ⟨hw, hbQ8, hbQ10, hbQ12⟩
      replace hw := hide hw
      replace hbQ8 := hide hbQ8
      replace hbQ10 := hide hbQ10
      replace hbQ12 := hide hbQ12
      have bw := HW.out.2.1.up hw.out
      have cw0 := bw.cell 0 rfl
      have cw1 := bw.cell 1 rfl
      have lcw := bw.lt
      clear bw
      go_wp2_with fail
      go_at_call 36
      refine (K20.out _ hw.out).mono ?_
      intro p20
      go_wp2_with fail
      go_at_call 37
      obtain ⟨Q16, hQ16⟩ : ∃ T, Z19.heap.size + p20.os.size = T := ⟨_, rfl⟩
      rw [hQ16]
      clear cw0 cw1 lcw
      refine forgetE (fun Y => Up W3 Y ∧ Box Y Q8 #[.int .i64 (0), .int .i64 (40), .int .i64 (0), .int .i64 (0)] 38 ∧ Box Y Q10 #[.int .i64 (0), .int .i64 (0), .int .i64 (-4), .int .i64 (4)] 38 ∧ Box Y Q12 #[.int .i64 (-397), .int .i64 (-355), .int .i64 (-5), .int .i64 (5)] 38 ∧ Box Y Q16 #[.int .i64 (-30400), .int .i64 (-30400)] 36) ⟨?_, ?_, ?_, ?_, ?_⟩ ?_
      · exact (by repeat (first | with_reducible exact hw.out | with_reducible exact Up.refl _ | with_reducible apply Up.ext | with_reducible apply Up.alloc | with_reducible apply Up.drew | (with_reducible refine Up.setCell ?_ (by simp only; omega) _)))
      · exact (by repeat (first | with_reducible exact hbQ8.out | with_reducible apply Box.ext | with_reducible apply Box.alloc | with_reducible apply Box.drew | (with_reducible refine Box.other ?_ (by omega) _ _)))
      · exact (by repeat (first | with_reducible exact hbQ10.out | with_reducible apply Box.ext | with_reducible apply Box.alloc | with_reducible apply Box.drew | (with_reducible refine Box.other ?_ (by omega) _ _)))
      · exact (by repeat (first | with_reducible exact hbQ12.out | with_reducible apply Box.ext | with_reducible apply Box.alloc | with_reducible apply Box.drew | (with_reducible refine Box.other ?_ (by omega) _ _)))
      · exact by rw [← hQ16]; exact (by repeat (first | exact Box.mk rfl | (refine Box.mk ?_; simp; done) | apply Box.ext | apply Box.alloc))
      rintro Z20 ⟨hw, hbQ8, hbQ10, hbQ12, hbQ16⟩
      replace hw := hide hw
      replace hbQ8 := hide hbQ8
      replace hbQ10 := hide hbQ10
      replace hbQ12 := hide hbQ12
      replace hbQ16 := hide hbQ16
      clear hQ16
      have bw := HW.out.2.1.up hw.out
      have cw0 := bw.cell 0 rfl
      have cw1 := bw.cell 1 rfl
      have lcw := bw.lt
      clear bw
      refine (K21.out _ hw.out).mono ?_
      intro p21
      go_wp2_with fail
      go_at_call 37
      refine (K22.out _ (Up.ext hw.out _)).mono ?_
      intro p22
      clear cw0 cw1 lcw
      go_wp2_with fail
      go_at_call 40
      refine forgetE (fun Y => Up W3 Y ∧ Box Y Q8 #[.int .i64 (0), .int .i64 (40), .int .i64 (0), .int .i64 (0)] 38 ∧ Box Y Q10 #[.int .i64 (0), .int .i64 (0), .int .i64 (-4), .int .i64 (4)] 38 ∧ Box Y Q12 #[.int .i64 (-397), .int .i64 (-355), .int .i64 (-5), .int .i64 (5)] 38 ∧ Box Y Q16 #[.int .i64 (-30400), .int .i64 (-30400)] 36) ⟨?_, ?_, ?_, ?_, ?_⟩ ?_
      · exact (by repeat (first | with_reducible exact hw.out | with_reducible exact Up.refl _ | with_reducible apply Up.ext | with_reducible apply Up.alloc | with_reducible apply Up.drew | (with_reducible refine Up.setCell ?_ (by simp only; omega) _)))
      · exact (by repeat (first | with_reducible exact hbQ8.out | with_reducible apply Box.ext | with_reducible apply Box.alloc | with_reducible apply Box.drew | (with_reducible refine Box.other ?_ (by omega) _ _)))
      · exact (by repeat (first | with_reducible exact hbQ10.out | with_reducible apply Box.ext | with_reducible apply Box.alloc | with_reducible apply Box.drew | (with_reducible refine Box.other ?_ (by omega) _ _)))
      · exact (by repeat (first | with_reducible exact hbQ12.out | with_reducible apply Box.ext | with_reducible apply Box.alloc | with_reducible apply Box.drew | (with_reducible refine Box.other ?_ (by omega) _ _)))
      · exact (by repeat (first | with_reducible exact hbQ16.out | with_reducible apply Box.ext | with_reducible apply Box.alloc | with_reducible apply Box.drew | (with_reducible refine Box.other ?_ (by omega) _ _)))
      rintro Z22 ⟨hw, hbQ8, hbQ10, hbQ12, hbQ16⟩
      replace hw := hide hw
      replace hbQ8 := hide hbQ8
      replace hbQ10 := hide hbQ10
      replace hbQ12 := hide hbQ12
      replace hbQ16 := hide hbQ16
      refine (shown_boxes _).mono ?_
      rintro _ V ⟨g2, x2, p23, rfl, hV, hg1, hx1, hgx, bx, y, bg⟩
      have huV : Up Z22 V := ⟨p23, hV⟩
      have hgW : W3.heap.size ≤ g2 := by have := hw.out.below.size; omega
      replace hw := hide (hw.out.trans huV)
      have n2Q8 : Q8 ≠ g2 := by have := hbQ8.out.lt; omega
      have n2Q10 : Q10 ≠ g2 := by have := hbQ10.out.lt; omega
      have n2Q12 : Q12 ≠ g2 := by have := hbQ12.out.lt; omega
      have n2Q16 : Q16 ≠ g2 := by have := hbQ16.out.lt; omega
      replace hbQ8 := hide (hbQ8.out.up huV)
      replace hbQ10 := hide (hbQ10.out.up huV)
      replace hbQ12 := hide (hbQ12.out.up huV)
      replace hbQ16 := hide (hbQ16.out.up huV)
      have m1g2 : N1 ≠ g2 := by have := HW.out.2.1.lt; omega
      have cg3 := bg.cell 3 rfl
      have cg4 := bg.cell 4 rfl
      have cg5 := bg.cell 5 rfl
      have fg3 := bg.frozen 3
      have fg4 := bg.frozen 4
      have fg5 := bg.frozen 5
      have lg := bg.lt
      have HG := hide (And.intro bx bg)
      clear bx bg hV huV hg1 hx1
      go_wp2_with fail
      go_at_call 37
      obtain ⟨T21, hT21⟩ : ∃ T, V.heap.size = T := ⟨_, rfl⟩
      rw [hT21]
      refine forgetE (fun Y => Up W3 Y ∧ Box Y Q8 #[.int .i64 (0), .int .i64 (40), .int .i64 (0), .int .i64 (0)] 38 ∧ Box Y Q10 #[.int .i64 (0), .int .i64 (0), .int .i64 (-4), .int .i64 (4)] 38 ∧ Box Y Q12 #[.int .i64 (-397), .int .i64 (-355), .int .i64 (-5), .int .i64 (5)] 38 ∧ Box Y Q16 #[.int .i64 (-30400), .int .i64 (-30400)] 36 ∧ Box Y x2 #[.int .i64 (0), .int .i64 (0)] 26 ∧ Box Y (T21 + 1) #[.int .i64 (10), .int .i64 (0)] 26 ∧ Box Y g2 #[.int .i64 1000000, .int .i64 10, .slice (some ⟨x2, 0, none⟩) 1 1, .int .i64 1000000, .int .i64 10, .slice (some ⟨(T21 + 1), 0, none⟩) 1 1] 31) ⟨?_, ?_, ?_, ?_, ?_, ?_, ?_, ?_⟩ ?_
      · exact (by repeat (first | with_reducible exact hw.out | with_reducible exact Up.refl _ | with_reducible apply Up.ext | with_reducible apply Up.alloc | with_reducible apply Up.drew | (with_reducible refine Up.setCell ?_ (by simp only; omega) _)))
      · exact (by repeat (first | with_reducible exact hbQ8.out | with_reducible apply Box.ext | with_reducible apply Box.alloc | with_reducible apply Box.drew | (with_reducible refine Box.other ?_ (by omega) _ _)))
      · exact (by repeat (first | with_reducible exact hbQ10.out | with_reducible apply Box.ext | with_reducible apply Box.alloc | with_reducible apply Box.drew | (with_reducible refine Box.other ?_ (by omega) _ _)))
      · exact (by repeat (first | with_reducible exact hbQ12.out | with_reducible apply Box.ext | with_reducible apply Box.alloc | with_reducible apply Box.drew | (with_reducible refine Box.other ?_ (by omega) _ _)))
      · exact (by repeat (first | with_reducible exact hbQ16.out | with_reducible apply Box.ext | with_reducible apply Box.alloc | with_reducible apply Box.drew | (with_reducible refine Box.other ?_ (by omega) _ _)))
      · exact (by repeat (first | with_reducible exact HG.out.1 | with_reducible apply Box.ext | with_reducible apply Box.alloc | with_reducible apply Box.drew | (with_reducible refine Box.other ?_ (by omega) _ _)))
      · have e : V.heap.size + 1 = T21 + 1 := by omega
        rw [← e]
        exact Box.mk (by simp [World.setCell])
      · exact (by (repeat (first | with_reducible apply Box.ext | with_reducible apply Box.alloc | with_reducible apply Box.drew)); exact (((HG.out.2.set 3 (.int .i64 1000000)).set 4 (.int .i64 10)).set 5 (.slice (some ⟨(T21 + 1), 0, none⟩) 1 1)))
      rintro Z25 ⟨hw, hbQ8, hbQ10, hbQ12, hbQ16, bx, bz, bg⟩
      replace hw := hide hw
      replace hbQ8 := hide hbQ8
      replace hbQ10 := hide hbQ10
      replace hbQ12 := hide hbQ12
      replace hbQ16 := hide hbQ16
      clear hT21 HG cg3 cg4 cg5 fg3 fg4 fg5 lg
      refine (ruler_at2 (twin_lies bx bz bg) i64_one fk10).mono ?_
      intro p25
      clear bx bz bg
      go_wp2_with fail
      refine forgetW (fun Y => Up W3 Y ∧ Box Y Q8 #[.int .i64 (0), .int .i64 (40), .int .i64 (0), .int .i64 (0)] 38 ∧ Box Y Q10 #[.int .i64 (0), .int .i64 (0), .int .i64 (-4), .int .i64 (4)] 38 ∧ Box Y Q12 #[.int .i64 (-397), .int .i64 (-355), .int .i64 (-5), .int .i64 (5)] 38 ∧ Box Y Q16 #[.int .i64 (-30400), .int .i64 (-30400)] 36) ⟨?_, ?_, ?_, ?_, ?_⟩ ?_
      · exact (by repeat (first | with_reducible exact hw.out | with_reducible exact Up.refl _ | with_reducible apply Up.ext | with_reducible apply Up.alloc | with_reducible apply Up.drew | (with_reducible refine Up.setCell ?_ (by simp only; omega) _)))
      · exact (by repeat (first | with_reducible exact hbQ8.out | with_reducible apply Box.ext | with_reducible apply Box.alloc | with_reducible apply Box.drew | (with_reducible refine Box.other ?_ (by omega) _ _)))
      · exact (by repeat (first | with_reducible exact hbQ10.out | with_reducible apply Box.ext | with_reducible apply Box.alloc | with_reducible apply Box.drew | (with_reducible refine Box.other ?_ (by omega) _ _)))
      · exact (by repeat (first | with_reducible exact hbQ12.out | with_reducible apply Box.ext | with_reducible apply Box.alloc | with_reducible apply Box.drew | (with_reducible refine Box.other ?_ (by omega) _ _)))
      · exact (by repeat (first | with_reducible exact hbQ16.out | with_reducible apply Box.ext | with_reducible apply Box.alloc | with_reducible apply Box.drew | (with_reducible refine Box.other ?_ (by omega) _ _)))
      rintro Z25b ⟨hw, hbQ8, hbQ10, hbQ12, hbQ16⟩
      replace hw := hide hw
      replace hbQ8 := hide hbQ8
      replace hbQ10 := hide hbQ10
      replace hbQ12 := hide hbQ12
      replace hbQ16 := hide hbQ16
      have cQ160 := hbQ16.out.cell 0 rfl
      have cQ161 := hbQ16.out.cell 1 rfl
      have lcQ16 := hbQ16.out.lt
      ((first | with_reducible refine wp_region_ext2 (by kernel_rfl) (by kernel_rfl) ?_ | refine wp_region_ext (by kernel_rfl) (by kernel_rfl) ?_); (repeat (go_big_quiet_step ((go_at_call 25; with_reducible exact Gives.inRegion (xof_any _ _ _))))); refine wpQuiet_nil ?_; intro _ hw'; obtain ⟨_, hw''⟩ := hw'; subst hw'')
      clear cQ160 cQ161 lcQ16
      refine forgetW (fun Y => Up W3 Y ∧ Box Y Q16 #[.int .i64 (-30400), .int .i64 (-30400)] 36) ⟨?_, ?_⟩ ?_
      · exact (by repeat (first | with_reducible exact hw.out | with_reducible exact Up.refl _ | with_reducible apply Up.ext | with_reducible apply Up.alloc | with_reducible apply Up.drew | (with_reducible refine Up.setCell ?_ (by simp only; omega) _)))
      · exact (by repeat (first | with_reducible exact hbQ16.out | with_reducible apply Box.ext | with_reducible apply Box.alloc | with_reducible apply Box.drew | (with_reducible refine Box.other ?_ (by omega) _ _)))
      rintro Z26 ⟨hw, hbQ16⟩
      replace hw := hide hw
      replace hbQ16 := hide hbQ16
      have bw := HW.out.2.1.up hw.out
      have cw0 := bw.cell 0 rfl
      have cw1 := bw.cell 1 rfl
      have lcw := bw.lt
      clear bw
      go_wp2_with fail
      ((first | with_reducible refine wp_region_ext2 (by kernel_rfl) (by kernel_rfl) ?_ | refine wp_region_ext (by kernel_rfl) (by kernel_rfl) ?_); (repeat (go_big_quiet_step ((first | (go_at_call 15; with_reducible exact Gives.inRegion (xat_any _ _ _)) | (go_at_call 14; with_reducible exact Gives.inRegion (K27.out _ (Up.ext hw.out _))))))); refine wpQuiet_nil ?_; intro _ hw'; obtain ⟨_, hw''⟩ := hw'; subst hw'')
      go_wp2_with fail
      clear cw0 cw1 lcw
      refine forgetW (fun Y => Up W3 Y) ?_ ?_
      · exact (by repeat (first | with_reducible exact hw.out | with_reducible exact Up.refl _ | with_reducible apply Up.ext | with_reducible apply Up.alloc | with_reducible apply Up.drew | (with_reducible refine Up.setCell ?_ (by simp only; omega) _)))
      rintro Z27 hw
      replace hw := hide hw
      have bw := HW.out.2.1.up hw.out
      have cw0 := bw.cell 0 rfl
      have cw1 := bw.cell 1 rfl
      have lcw := bw.lt
      clear bw
      ((first | with_reducible refine wp_region_ext2 (by kernel_rfl) (by kernel_rfl) ?_ | refine wp_region_ext (by kernel_rfl) (by kernel_rfl) ?_); (repeat (go_big_quiet_step ((first | (go_at_call 15; with_reducible exact Gives.inRegion (xat_any _ _ _)) | (go_at_call 14; with_reducible exact Gives.inRegion (K28.out _ (Up.ext hw.out _))))))); refine wpQuiet_nil ?_; intro _ hw'; obtain ⟨_, hw''⟩ := hw'; subst hw'')
      clear cw0 cw1 lcw
      refine forgetW (fun Y => Up W3 Y) ?_ ?_
      · exact (by repeat (first | with_reducible exact hw.out | with_reducible exact Up.refl _ | with_reducible apply Up.ext | with_reducible apply Up.alloc | with_reducible apply Up.drew | (with_reducible refine Up.setCell ?_ (by simp only; omega) _)))
      rintro Z28 hw
      replace hw := hide hw
      have KD1 := hide (fun W => show Gives Try.prog 41 #[.agg #[.int .i64 ((-1)), .int .i64 (0), .int .i64 (0), .int .i64 (0), .int .i64 (0)]] W (.int .i64 2) from fdrift_any (-1) 0 0 0 0 W)
      have KD2 := hide (fun W => show Gives Try.prog 41 #[.agg #[.int .i64 (1), .int .i64 (0), .int .i64 (0), .int .i64 (0), .int .i64 (0)]] W (.int .i64 11) from fdrift_any 1 0 0 0 0 W)
      go_wp2_with (first | (go_at_call 25; (with_reducible refine (xof_any _ _ _).mono ?_); intro _) | (go_at_call 41; (with_reducible refine (KD1.out _).mono ?_); intro _) | (go_at_call 41; (with_reducible refine (KD2.out _).mono ?_); intro _))
      go_ret
      exact ⟨rfl, (by repeat (first | with_reducible exact (HW.out.1.trans hw.out) | with_reducible exact Up.refl _ | apply Up.ext | apply Up.alloc | apply Up.drew | (refine Up.setCell ?_ (by simp [World.setCell]; try omega) _)))⟩

set_option maxRecDepth 100000 in
theorem fknown_lifted (os : Os) (started : os.Started) (H : Type) (enc : TypeId × Value → H) :
    ReturnsInHanded {} Try.checked os 9 .any (Rows.forceKnownSpec.pre6 enc Try.prog Try.f9 Rows.forceKnownRow.domain false) (Rows.forceKnownSpec.post enc Try.prog Try.f9 false true false false) := by
  refine returnsInHanded_of_change (C := Try.checked) knob_own started (by kernel_rfl) Try.func9
    (ChangeSpec.witness6 (enc := enc) (C := Try.checked) false ⟨#[], #[], []⟩ 8 (by kernel_rfl) (by kernel_rfl) (by kernel_rfl) (by kernel_rfl)) ?_
  intro W base args ds gs before hval0 hW _ _
  have hval : ∀ (j : Nat) t v, Try.f9.params[j]? = some t → args[j]? = some v → Value.okWide Try.prog W .any base t v := hval0
  have hW' := hW
  obtain ⟨p, q, hA0, hV, rfl, _, _⟩ := hW
  have hA : DataW.TrodAll enc Try.prog W 0 (fun _ => true) true Try.f9.params.toList args.toList ds p := hA0
  rw [Try.params9] at hA hval
  obtain ⟨hargs, rfl, rfl⟩ := trodAll_nil hA
  obtain rfl : args = #[] := by cases args; simp_all
  obtain ⟨rfl, rfl⟩ := trodVars_none hV
  clear hA0 hval0
  simp only [List.append_nil] at hW'
  refine (fknown_law  W).mono fun px => ?_
  exact ⟨_, rfl, post_of_below (pa := []) (pv := []) hW' (fun _ _ _ => (trodAll_cons_mk (shut_bool Try.underlying4 _) trodAll_mk0)) (fun sp hsp => trodAll_mk0) (fun _ _ => rfl) (by simp)
    (Up.below ⟨px, rfl⟩) (ok_one (by kernel_rfl) rfl (okWide_bool_mk Try.underlying4 _))⟩

theorem fknown_holds : Rows.ForceKnownSaid :=
  OpenClaim.holds_of_wide 9 Try.f9 rfl rfl rfl rfl rfl rfl rfl ⟨rfl, rfl, rfl, rfl, rfl⟩ rfl rfl rfl rfl rfl (by kernel_rfl) Try.func9 (by kernel_rfl)
    (of_decide_eq_true (by kernel_rfl)) (by unfold Func.isWrapper; rw [if_neg (by decide +kernel)]; exact ⟨rfl, rfl⟩)
    (fun os started H enc _ => fknown_lifted os started H enc)
#print axioms fknown_holds
end Go.Proofs.Ytbcgdhldkanecaa
