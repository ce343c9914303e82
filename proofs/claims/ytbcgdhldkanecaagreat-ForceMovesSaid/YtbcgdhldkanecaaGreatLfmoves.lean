/- ForceMoves returns true for every input: what moves a body in an area and at a place is what the reference says. No conditions. -/
import Derived.Test.YtbcgdhldkanecaaGreatPostn
import Derived.Test.YtbcgdhldkanecaaGreatPostb
import Derived.Test.YtbcgdhldkanecaaGreatShown
import Derived.Test.YtbcgdhldkanecaaGreatMade
import Derived.Test.YtbcgdhldkanecaaGreatFloatE
import Derived.Test.YtbcgdhldkanecaaGreatBig
import Derived.Test.YtbcgdhldkanecaaGreatRaw
import Derived.JoinedOf
import Derived.JoinedAt
import Derived.ChangeSame
import Derived.OpenShut
namespace Go.Proofs.YtbcgdhldkanecaaGreat
set_option linter.unusedVariables false
set_option linter.unusedSimpArgs false
open Go.RowKit Go.ChangeShapes Go.WideShapes Go.ChangeAt Go.Joins Go.Shelf

/-- what lies at place k of the slices -/
theorem fmoves_cells {W : World} {g1 g2 g3 g4 g5 n c n2 c2 : Nat} {a a2 : Option Addr} {bs bs2 : List Bod} {home home2 l1 l2 h1 h2 g k1 k2 m1 m2 e2 t t2 x0 x1 y0 y1 u0 u1 z0 z1 px py qx qy : Int} (hb : Bods (fun _ => True) W (.slice a n c) bs) (hb2 : Bods (fun _ => True) W (.slice a2 n2 c2) bs2) (hh : I64 home) (hh2 : I64 home2)
    (bg1 : Box W g1 #[.slice a n c, .int .i64 home, .slice a2 n2 c2, .int .i64 home2] 24) (bg2 : Box W g2 #[.int .i64 (l1), .int .i64 (l2), .int .i64 (h1), .int .i64 (h2), .int .i64 (g), .int .i64 (k1), .int .i64 (k2), .int .i64 (m1), .int .i64 (m2), .int .i64 (e2)] 28) (bg3 : Box W g3 #[.int .i64 (t), .int .i64 (t2)] 2) (bg4 : Box W g4 #[.int .i64 (x0), .int .i64 (x1), .int .i64 (y0), .int .i64 (y1), .int .i64 (u0), .int .i64 (u1), .int .i64 (z0), .int .i64 (z1)] 30) (bg5 : Box W g5 #[.int .i64 (px), .int .i64 (py), .int .i64 (qx), .int .i64 (qy)] 55) :
    ∀ k, k < 2 → ∃ (ra : Option Addr) (rn rc : Nat) (rbs : List Bod) (rh rl1 rl2 rh1 rh2 rg rt rx0 rx1 ry0 ry1 rpx rpy : Int), (∀ W', Up W W' → Bods (fun _ => True) W' (.slice ra rn rc) rbs) ∧ I64 rh ∧ ∀ W', Up W W' → W'.cell? ⟨g1, k * 2, none⟩ = some (.slice ra rn rc) ∧ W'.cell? ⟨g1, k * 2 + 1, none⟩ = some (.int .i64 rh) ∧ W'.cell? ⟨g2, k * 5, none⟩ = some (.int .i64 rl1) ∧ W'.cell? ⟨g2, k * 5 + 1, none⟩ = some (.int .i64 rl2) ∧ W'.cell? ⟨g2, k * 5 + 2, none⟩ = some (.int .i64 rh1) ∧ W'.cell? ⟨g2, k * 5 + 3, none⟩ = some (.int .i64 rh2) ∧ W'.cell? ⟨g2, k * 5 + 4, none⟩ = some (.int .i64 rg) ∧ W'.cell? ⟨g3, k, none⟩ = some (.int .i64 rt) ∧ W'.cell? ⟨g4, k * 4, none⟩ = some (.int .i64 rx0) ∧ W'.cell? ⟨g4, k * 4 + 1, none⟩ = some (.int .i64 rx1) ∧ W'.cell? ⟨g4, k * 4 + 2, none⟩ = some (.int .i64 ry0) ∧ W'.cell? ⟨g4, k * 4 + 3, none⟩ = some (.int .i64 ry1) ∧ W'.cell? ⟨g5, k * 2, none⟩ = some (.int .i64 rpx) ∧ W'.cell? ⟨g5, k * 2 + 1, none⟩ = some (.int .i64 rpy) := by
  intro k hk
  have up : ∀ {b j : Nat} {v : Value} {W' : World}, b < W.heap.size → W.cell? ⟨b, j, none⟩ = some v → Up W W' → W'.cell? ⟨b, j, none⟩ = some v := fun {b j v W'} hb hv hu => (World.cell?_of_block (a := ⟨b, j, none⟩) (hu.below.block b hb)).trans hv
  match k, hk with
  | 0, _ => exact ⟨a, n, c, bs, home, l1, l2, h1, h2, g, t, x0, x1, y0, y1, px, py, fun W' hu => hb.keeps (hu.keeps _), hh, fun W' hu => ⟨up bg1.lt (bg1.cell 0 rfl) hu, up bg1.lt (bg1.cell 1 rfl) hu, up bg2.lt (bg2.cell 0 rfl) hu, up bg2.lt (bg2.cell 1 rfl) hu, up bg2.lt (bg2.cell 2 rfl) hu, up bg2.lt (bg2.cell 3 rfl) hu, up bg2.lt (bg2.cell 4 rfl) hu, up bg3.lt (bg3.cell 0 rfl) hu, up bg4.lt (bg4.cell 0 rfl) hu, up bg4.lt (bg4.cell 1 rfl) hu, up bg4.lt (bg4.cell 2 rfl) hu, up bg4.lt (bg4.cell 3 rfl) hu, up bg5.lt (bg5.cell 0 rfl) hu, up bg5.lt (bg5.cell 1 rfl) hu⟩⟩
  | 1, _ => exact ⟨a2, n2, c2, bs2, home2, k1, k2, m1, m2, e2, t2, u0, u1, z0, z1, qx, qy, fun W' hu => hb2.keeps (hu.keeps _), hh2, fun W' hu => ⟨up bg1.lt (bg1.cell 2 rfl) hu, up bg1.lt (bg1.cell 3 rfl) hu, up bg2.lt (bg2.cell 5 rfl) hu, up bg2.lt (bg2.cell 6 rfl) hu, up bg2.lt (bg2.cell 7 rfl) hu, up bg2.lt (bg2.cell 8 rfl) hu, up bg2.lt (bg2.cell 9 rfl) hu, up bg3.lt (bg3.cell 1 rfl) hu, up bg4.lt (bg4.cell 4 rfl) hu, up bg4.lt (bg4.cell 5 rfl) hu, up bg4.lt (bg4.cell 6 rfl) hu, up bg4.lt (bg4.cell 7 rfl) hu, up bg5.lt (bg5.cell 2 rfl) hu, up bg5.lt (bg5.cell 3 rfl) hu⟩⟩
/-- what a round calls, with letters for the values -/
theorem fmoves_calls {W : World} (ra : Option Addr) (rn rc : Nat) (rbs : List Bod) (rh rl1 rl2 rh1 rh2 rg rt rx0 rx1 ry0 ry1 rpx rpy : Int) (hb : ∀ W', Up W W' → Bods (fun _ => True) W' (.slice ra rn rc) rbs) (hh : I64 rh) :
    ∃ p1 p2 p3 p4 pe q1 q2 q3 q4 qe : Int, (∀ W', Up W W' → Gives Tryz.prog 22 #[.agg #[.slice ra rn rc, .int .i64 rh], .agg #[.int .i64 (rl1), .int .i64 (rl2), .int .i64 (rh1), .int .i64 (rh2), .int .i64 (rg)], .int .i64 rt, .agg #[.int .i64 (rx0), .int .i64 (rx1), .int .i64 (ry0), .int .i64 (ry1)]] W' (.tuple #[.agg #[.int .i64 (p1), .int .i64 (p2), .int .i64 (p3), .int .i64 (p4)], .int .i64 pe])) ∧ (∀ W', Up W W' → Gives Tryz.prog 23 #[.agg #[.slice ra rn rc, .int .i64 rh], .agg #[.int .i64 (rl1), .int .i64 (rl2), .int .i64 (rh1), .int .i64 (rh2), .int .i64 (rg)], .int .i64 rt, .agg #[.int .i64 (rx0), .int .i64 (rx1), .int .i64 (ry0), .int .i64 (ry1)]] W' (.tuple #[.agg #[.int .i64 (p1), .int .i64 (p2), .int .i64 (p3), .int .i64 (p4)], .int .i64 pe])) ∧ (∀ W', Up W W' → Gives Tryz.prog 24 #[.agg #[.slice ra rn rc, .int .i64 rh], .agg #[.int .i64 (rl1), .int .i64 (rl2), .int .i64 (rh1), .int .i64 (rh2), .int .i64 (rg)], .int .i64 rt, .agg #[.int .i64 (rpx), .int .i64 (rpy)]] W' (.tuple #[.agg #[.int .i64 (q1), .int .i64 (q2), .int .i64 (q3), .int .i64 (q4)], .int .i64 qe])) ∧ (∀ W', Up W W' → Gives Tryz.prog 25 #[.agg #[.slice ra rn rc, .int .i64 rh], .agg #[.int .i64 (rl1), .int .i64 (rl2), .int .i64 (rh1), .int .i64 (rh2), .int .i64 (rg)], .int .i64 rt, .agg #[.int .i64 (rpx), .int .i64 (rpy)]] W' (.tuple #[.agg #[.int .i64 (q1), .int .i64 (q2), .int .i64 (q3), .int .i64 (q4)], .int .i64 qe])) := by
  obtain ⟨⟨⟨p1, p2, p3, p4⟩, pe⟩, hp⟩ : ∃ R, overV rbs rh (rl1, rl2) (rh1, rh2) rg rt (rx0, rx1, ry0, ry1) = R := ⟨_, rfl⟩
  obtain ⟨⟨⟨q1, q2, q3, q4⟩, qe⟩, hq⟩ : ∃ R, overV rbs rh (rl1, rl2) (rh1, rh2) rg rt (rpx, rpx, rpy, rpy) = R := ⟨_, rfl⟩
  refine ⟨p1, p2, p3, p4, pe, q1, q2, q3, q4, qe, fun W' hu => ?_, fun W' hu => ?_, fun W' hu => ?_, fun W' hu => ?_⟩
  · have := fOver_any (hb W' hu) hh (rl1, rl2) (rh1, rh2) rg rt (rx0, rx1, ry0, ry1)
    rw [hp] at this
    exact this
  · have := g_Over (hb W' hu) hh (rl1, rl2) (rh1, rh2) rg rt (rx0, rx1, ry0, ry1)
    rw [hp] at this
    exact this
  · have := fPull_any (hb W' hu) hh (rl1, rl2) (rh1, rh2) rg rt rpx rpy
    rw [hq] at this
    exact this
  · have := g_Pull (hb W' hu) hh (rl1, rl2) (rh1, rh2) rg rt rpx rpy
    rw [hq] at this
    exact this

set_option maxRecDepth 100000 in
set_option maxHeartbeats 100000000 in
theorem fmoves_law (v0 v5 : Value) {w : World} {bs0 : List Bod} {home0 : Int} (hW0 : WorldIn (fun b => b < w.heap.size) w v0 bs0 home0) (l1 l2 h1 h2 g t x0 x1 y0 y1 px py : Int) (hN : Nums w v5) :
    Gives Tryz.prog 4 #[v0, .agg #[.int .i64 (l1), .int .i64 (l2), .int .i64 (h1), .int .i64 (h2), .int .i64 (g)], .int .i64 t, .agg #[.int .i64 (x0), .int .i64 (x1), .int .i64 (y0), .int .i64 (y1)], .agg #[.int .i64 (px), .int .i64 (py)], v5] w (.bool true) := by
  obtain ⟨sa, sn, sc, rfl⟩ := hN.form
  obtain ⟨_, rfl, ⟨a0, c0, rfl, hl0⟩, hh0⟩ := hW0
  have hl : Bods (fun b => b < w.heap.size) w (.slice a0 bs0.length c0) bs0 := ⟨a0, c0, rfl, hl0⟩
  clear hl0
  have HL := hide (And.intro hl (And.intro hh0 hN))
  clear hl hh0 hN
  obtain ⟨H, hH⟩ : ∃ H, w.heap.size = H := ⟨_, rfl⟩
  (unfold Gives; go_enter Tryz.func4, Tryz.ntmps4)
  go_wp2_with fail
  go_at_call 7
  try rw [hH]
  refine forgetE (fun Y => Up w Y ∧ Box Y H #[.slice a0 bs0.length c0, .int .i64 home0] 24 ∧ Box Y (H + 1) #[.int .i64 (l1), .int .i64 (l2), .int .i64 (h1), .int .i64 (h2), .int .i64 (g)] 28 ∧ Box Y (H + 1 + 1) #[.int .i64 (x0), .int .i64 (x1), .int .i64 (y0), .int .i64 (y1)] 30 ∧ Box Y (H + 1 + 1 + 1) #[.int .i64 (px), .int .i64 (py)] 55) ⟨(by repeat (first | with_reducible exact Up.refl _ | with_reducible apply Up.plus | apply Up.ext | apply Up.alloc | apply Up.drew | (refine Up.setCell ?_ (by simp; try omega) _))), by rw [← hH]; exact (by repeat (first | exact Box.mk rfl | (refine Box.mk ?_; simp; done) | apply Box.ext | apply Box.drew | apply Box.alloc | apply Box.two1 | (refine Box.other ?_ (by omega) _ _))), by rw [← hH]; exact (by repeat (first | exact Box.mk rfl | (refine Box.mk ?_; simp; done) | apply Box.ext | apply Box.drew | apply Box.alloc | apply Box.two1 | (refine Box.other ?_ (by omega) _ _))), by rw [← hH]; exact (by repeat (first | exact Box.mk rfl | (refine Box.mk ?_; simp; done) | apply Box.ext | apply Box.drew | apply Box.alloc | apply Box.two1 | (refine Box.other ?_ (by omega) _ _))), by rw [← hH]; exact (by repeat (first | exact Box.mk rfl | (refine Box.mk ?_; simp; done) | apply Box.ext | apply Box.drew | apply Box.alloc | apply Box.two1 | (refine Box.other ?_ (by omega) _ _)))⟩ ?_
  rintro Y1 ⟨hu1, bbw, bbd, bba, bbp⟩
  refine (bigworld_any (home := home0) (HL.out.1.keeps (hu1.keeps _))).mono ?_
  rintro _ _ ⟨bb, p1, rfl, rfl⟩
  cases bb
  case true =>
    go_wp2_with (first | (go_at_call 8; refine (awake_any _).mono ?_; intro _) | fail)
    go_ret
    exact ⟨rfl, (by repeat (first | with_reducible exact hu1 | with_reducible exact Up.refl _ | apply Up.ext | apply Up.alloc | apply Up.drew | (refine Up.setCell ?_ (by simp [World.setCell]; try omega) _)))⟩
  case false =>
  go_wp2_with fail
  go_at_call 9
  refine (newring_any _ _ _ _).mono ?_
  rintro _ _ ⟨rfl, rfl⟩
  go_wp2_with fail
  go_at_call 10
  obtain ⟨B, hB⟩ : ∃ T, Y1.heap.size + p1.os.size = T := ⟨_, rfl⟩
  try simp only [ext_size]
  rw [hB]
  refine forgetE (fun Y => Up w Y ∧ Y.heap.size = B + 1 ∧ Box Y B #[.slice sa sn sc, .int .i64 0] 78 ∧ Box Y H #[.slice a0 bs0.length c0, .int .i64 home0] 24 ∧ Box Y (H + 1) #[.int .i64 (l1), .int .i64 (l2), .int .i64 (h1), .int .i64 (h2), .int .i64 (g)] 28 ∧ Box Y (H + 1 + 1) #[.int .i64 (x0), .int .i64 (x1), .int .i64 (y0), .int .i64 (y1)] 30 ∧ Box Y (H + 1 + 1 + 1) #[.int .i64 (px), .int .i64 (py)] 55) ⟨(by repeat (first | with_reducible exact hu1 | with_reducible exact Up.refl _ | apply Up.ext | apply Up.alloc | apply Up.drew | (refine Up.setCell ?_ (by simp [World.setCell]; try omega) _))), by simp; omega, Box.mk (by simp; omega), (by repeat (first | with_reducible exact bbw | apply Box.ext | apply Box.drew | apply Box.alloc | (refine Box.other ?_ (by simp; try omega) _ _))), (by repeat (first | with_reducible exact bbd | apply Box.ext | apply Box.drew | apply Box.alloc | (refine Box.other ?_ (by simp; try omega) _ _))), (by repeat (first | with_reducible exact bba | apply Box.ext | apply Box.drew | apply Box.alloc | (refine Box.other ?_ (by simp; try omega) _ _))), (by repeat (first | with_reducible exact bbp | apply Box.ext | apply Box.drew | apply Box.alloc | (refine Box.other ?_ (by simp; try omega) _ _)))⟩ ?_
  rintro W0 ⟨hu0, hl0, hb0, hbw, hbd, hba, hbp⟩
  have hBl : w.heap.size ≤ B := by have := hu1.below.size; omega
  have hHB : H + 1 + 1 + 1 < B := by have := bbp.lt; omega
  clear hB hu1 bbw bbd bba bbp
  refine (skyof_at HL.out.2.2 hBl hu0 hb0 (RingAt.start (n := 0) hb0 (by omega) (by omega)) (by omega)).mono ?_
  rintro _ V1 ⟨_, s, rfl, ⟨_, vs, vc, rfl, hbod, hhome, _, _⟩, hsm, hR1, hg1⟩
  obtain ⟨b1, c1, rfl, hbl⟩ := hbod
  have hbod : Bods (fun b => W0.heap.size ≤ b) V1 (.slice b1 s.bodies.length c1) s.bodies := ⟨b1, c1, rfl, hbl⟩
  clear hbl
  have hraw : Bods (fun b => b < w.heap.size) V1 (.slice a0 bs0.length c0) bs0 := (HL.out.1.keeps (hu0.keeps _)).keeps ((Keeps.refl _ W0).turn hg1 (by intro b e; cases e; omega))
  have hlV1 := hR1.size
  have qbw := hR1.other hbw (by omega)
  have qbd := hR1.other hbd (by omega)
  have qba := hR1.other hba (by omega)
  have qbp := hR1.other hbp (by omega)
  obtain ⟨N, hNN⟩ : ∃ N, V1.heap.size = N := ⟨_, rfl⟩
  have hBN : B < N := by omega
  have hHome := hide (And.intro hhome hsm)
  clear hg1 hhome hsm hbw hbd hba hbp
  go_wp2_with fail
  try rw [hNN]
  refine forgetW (fun Y => RingAt W0 B 60 Y ∧ Box Y N #[.slice b1 s.bodies.length c1, .int .i64 s.home] 24 ∧ Box Y H #[.slice a0 bs0.length c0, .int .i64 home0] 24 ∧ Box Y (H + 1) #[.int .i64 (l1), .int .i64 (l2), .int .i64 (h1), .int .i64 (h2), .int .i64 (g)] 28 ∧ Box Y (H + 1 + 1) #[.int .i64 (x0), .int .i64 (x1), .int .i64 (y0), .int .i64 (y1)] 30 ∧ Box Y (H + 1 + 1 + 1) #[.int .i64 (px), .int .i64 (py)] 55 ∧ Bods (fun b => b < w.heap.size) Y (.slice a0 bs0.length c0) bs0 ∧ Bods (fun b => W0.heap.size ≤ b) Y (.slice b1 s.bodies.length c1) s.bodies) ⟨(hR1.alloc _).mono (by omega), by rw [← hNN]; exact (by repeat (first | exact Box.mk rfl | (refine Box.mk ?_; simp; done) | apply Box.ext | apply Box.drew | apply Box.alloc | apply Box.two1 | (refine Box.other ?_ (by omega) _ _))), (by repeat (first | with_reducible exact qbw | apply Box.ext | apply Box.drew | apply Box.alloc | (refine Box.other ?_ (by simp; try omega) _ _))), (by repeat (first | with_reducible exact qbd | apply Box.ext | apply Box.drew | apply Box.alloc | (refine Box.other ?_ (by simp; try omega) _ _))), (by repeat (first | with_reducible exact qba | apply Box.ext | apply Box.drew | apply Box.alloc | (refine Box.other ?_ (by simp; try omega) _ _))), (by repeat (first | with_reducible exact qbp | apply Box.ext | apply Box.drew | apply Box.alloc | (refine Box.other ?_ (by simp; try omega) _ _))), hraw.keeps (Up.keeps (by repeat (first | with_reducible exact Up.refl _ | with_reducible apply Up.plus | apply Up.ext | apply Up.alloc | apply Up.drew | (refine Up.setCell ?_ (by simp; try omega) _))) _), hbod.keeps (Up.keeps (by repeat (first | with_reducible exact Up.refl _ | with_reducible apply Up.plus | apply Up.ext | apply Up.alloc | apply Up.drew | (refine Up.setCell ?_ (by simp; try omega) _))) _)⟩ ?_
  rintro W5 ⟨hR5, bn, jbw, jbd, jba, jbp, hraw, hbod⟩
  clear hNN hR1 qbw qbd qba qbp
  obtain ⟨tr, tr0, tr1, hbr⟩ := hR5.box hb0
  have hu5 := hR5.up hu0 hBl
  have hNB : N ≠ B := by omega
  have hS := hide (And.intro hbr (And.intro hu5 (And.intro hBl (And.intro hb0 (And.intro hu0 (And.intro hraw hbod))))))
  have cn0 := bn.cell 0 rfl
  have cn1 := bn.cell 1 rfl
  have lcn := bn.lt
  have cbw0 := jbw.cell 0 rfl
  have cbw1 := jbw.cell 1 rfl
  have lcbw := jbw.lt
  have cbd0 := jbd.cell 0 rfl
  have cbd1 := jbd.cell 1 rfl
  have cbd2 := jbd.cell 2 rfl
  have cbd3 := jbd.cell 3 rfl
  have cbd4 := jbd.cell 4 rfl
  have lcbd := jbd.lt
  have cba0 := jba.cell 0 rfl
  have cba1 := jba.cell 1 rfl
  have cba2 := jba.cell 2 rfl
  have cba3 := jba.cell 3 rfl
  have lcba := jba.lt
  have cbp0 := jbp.cell 0 rfl
  have cbp1 := jbp.cell 1 rfl
  have lcbp := jbp.lt
  have lBW : B < W5.heap.size := hbr.lt
  have KD := hide (driftof_r HL.out.2.2 hBl)
  have KR := hide (range_r (lo := 0) (hi := 50) HL.out.2.2 hBl (by omega) (by omega) (by omega))
  have KA := hide (areaof_r HL.out.2.2 hBl (most := 2000) (wide := 80) (by omega) (by omega) (by omega) (by omega))
  have KP := hide (pointof_k HL.out.2.2 hBl (n := 2500) (by omega) (by omega))
  clear hraw hbod hb0 hu0 hR5 hu5 hbr bn jbw jbd jba jbp
  refine wp_region_floatV (al := [⟨2, 39, 2, 24, none⟩, ⟨6, 43, 2, 28, none⟩, ⟨10, 47, 2, 2, none⟩, ⟨14, 51, 2, 30, none⟩, ⟨18, 55, 2, 55, none⟩, ⟨19, 15, 2, 24, some 2⟩, ⟨20, 16, 2, 28, some 6⟩, ⟨21, 17, 2, 2, some 10⟩, ⟨22, 18, 2, 30, some 14⟩, ⟨23, 19, 2, 55, some 18⟩]) (mv := fun k => k == 5 || k == 9 || k == 13 || k == 17) [] [0, 1, 2, 3, 4, 7, 8, 11, 12, 15, 16, 5, 6, 9, 10, 13, 14, 17, 18] (by kernel_rfl) (by kernel_rfl) (by kernel_rfl) (cls_ring _ B tr) (ringAt_drew hS.out.1 tr0 (Int.le_refl _)) (Nat.le_refl _) ?_
  simp only [withOps, List.filterMap_cons, List.filterMap_nil, List.getElem?_toArray, List.getElem?_cons_zero, List.getElem?_cons_succ, Option.map_some]
  refine walkV_seg 100 2 (by kernel_rfl) ?_
  simp only [List.take_succ_cons, List.take_zero, List.drop_succ_cons, List.drop_zero]
  (repeat (first | (apply walkF_pure (base := ringBase _ _) rfl rfl rfl (by kernel_rfl); · (rintro ⟨tx, px⟩ K hK; unfold ringBase; dsimp only; go_big_quiet_op; first | exact hK | (apply Exists.intro; refine ⟨fun _ => ?_, ?_⟩; (· (fail)); exact hK))) | (apply walkF_skip rfl; simp only [Act.put, List.setIfInBounds_toArray, List.set_cons_zero, List.set_cons_succ])))
  refine walkF_nil ?_
  refine walkV_mk (by kernel_rfl) (makesV_one (⟨2, 39, 2, 24, none⟩ : Mk) (#[.slice a0 bs0.length c0, .int .i64 home0, .slice b1 s.bodies.length c1, .int .i64 s.home]) (by simp) rfl (by decide) (runs_slice rfl rfl rfl rfl rfl (by decide) 2 (.agg #[.slice none 0 0, .int .i64 0]) Tryz.underlying41 (by kernel_rfl) (by decide) (by simp [go_sem, Instr.fill]))) ?_
  refine walkV_seg 100 9 (by kernel_rfl) ?_
  simp only [List.take_succ_cons, List.take_zero, List.drop_succ_cons, List.drop_zero]
  (repeat (first | (apply walkF_pure (base := ringBase _ _) rfl rfl rfl (by kernel_rfl); · (rintro ⟨tx, px⟩ K hK; unfold ringBase; dsimp only; go_big_quiet_op; first | exact hK | (apply Exists.intro; refine ⟨fun _ => ?_, ?_⟩; (· (fail)); exact hK))) | (apply walkF_skip rfl; simp only [Act.put, List.setIfInBounds_toArray, List.set_cons_zero, List.set_cons_succ])))
  refine walkF_call _ _ (ring_call KD.out hS.out.2.1 hS.out.1 hS.out.2.2.1 lBW (by omega)) (fun _ _ => cls_ring _ _ _) rfl rfl (fun _ => by simp [go_sem]) ?_
  rintro _ ⟨k1, k2, m1, m2, e2, _, _, _, rfl⟩
  simp only [Act.put, List.setIfInBounds_toArray, List.set_cons_zero, List.set_cons_succ]
  refine walkF_nil ?_
  refine walkV_mk (by kernel_rfl) (makesV_one (⟨6, 43, 2, 28, none⟩ : Mk) (#[.int .i64 (l1), .int .i64 (l2), .int .i64 (h1), .int .i64 (h2), .int .i64 (g), .int .i64 (k1), .int .i64 (k2), .int .i64 (m1), .int .i64 (m2), .int .i64 (e2)]) (by simp) rfl (by decide) (runs_slice rfl rfl rfl rfl rfl (by decide) 5 (.agg #[.int .i64 (0), .int .i64 (0), .int .i64 (0), .int .i64 (0), .int .i64 (0)]) Tryz.underlying57 (by kernel_rfl) (by decide) (by simp [go_sem, Instr.fill]))) ?_
  refine walkV_seg 100 1 (by kernel_rfl) ?_
  simp only [List.take_succ_cons, List.take_zero, List.drop_succ_cons, List.drop_zero]
  refine walkF_call _ _ (ring_call KR.out hS.out.2.1 hS.out.1 hS.out.2.2.1 lBW (by omega)) (fun _ _ => cls_ring _ _ _) rfl rfl (fun _ => by simp [go_sem]) ?_
  rintro _ ⟨t2, _, _, rfl⟩
  simp only [Act.put, List.setIfInBounds_toArray, List.set_cons_zero, List.set_cons_succ]
  refine walkF_nil ?_
  refine walkV_mk (by kernel_rfl) (makesV_one (⟨10, 47, 2, 2, none⟩ : Mk) (#[.int .i64 (t), .int .i64 (t2)]) (by simp) rfl (by decide) (runs_slice rfl rfl rfl rfl rfl (by decide) 1 (.int .i64 0) Tryz.underlying44 (by kernel_rfl) (by decide) (by simp [go_sem, Instr.fill]))) ?_
  refine walkV_seg 100 1 (by kernel_rfl) ?_
  simp only [List.take_succ_cons, List.take_zero, List.drop_succ_cons, List.drop_zero]
  refine walkF_call _ _ (ring_call KA.out hS.out.2.1 hS.out.1 hS.out.2.2.1 lBW (by omega)) (fun _ _ => cls_ring _ _ _) rfl rfl (fun _ => by simp [go_sem]) ?_
  rintro _ ⟨u0, u1, z0, z1, _, _, rfl⟩
  simp only [Act.put, List.setIfInBounds_toArray, List.set_cons_zero, List.set_cons_succ]
  refine walkF_nil ?_
  refine walkV_mk (by kernel_rfl) (makesV_one (⟨14, 51, 2, 30, none⟩ : Mk) (#[.int .i64 (x0), .int .i64 (x1), .int .i64 (y0), .int .i64 (y1), .int .i64 (u0), .int .i64 (u1), .int .i64 (z0), .int .i64 (z1)]) (by simp) rfl (by decide) (runs_slice rfl rfl rfl rfl rfl (by decide) 4 (.agg #[.int .i64 (0), .int .i64 (0), .int .i64 (0), .int .i64 (0)]) Tryz.underlying46 (by kernel_rfl) (by decide) (by simp [go_sem, Instr.fill]))) ?_
  refine walkV_seg 100 1 (by kernel_rfl) ?_
  simp only [List.take_succ_cons, List.take_zero, List.drop_succ_cons, List.drop_zero]
  refine walkF_call _ _ (ring_call KP.out hS.out.2.1 hS.out.1 hS.out.2.2.1 lBW (by omega)) (fun _ _ => cls_ring _ _ _) rfl rfl (fun _ => by simp [go_sem]) ?_
  rintro _ ⟨qx, qy, _, _, _, _, rfl⟩
  simp only [Act.put, List.setIfInBounds_toArray, List.set_cons_zero, List.set_cons_succ]
  refine walkF_nil ?_
  refine walkV_mk (by kernel_rfl) (makesV_one (⟨18, 55, 2, 55, none⟩ : Mk) (#[.int .i64 (px), .int .i64 (py), .int .i64 (qx), .int .i64 (qy)]) (by simp) rfl (by decide) (runs_slice rfl rfl rfl rfl rfl (by decide) 2 (.agg #[.int .i64 (0), .int .i64 (0)]) Tryz.underlying59 (by kernel_rfl) (by decide) (by simp [go_sem, Instr.fill]))) ?_
  refine walkV_nil (endV5 (#[.slice a0 bs0.length c0, .int .i64 home0, .slice b1 s.bodies.length c1, .int .i64 s.home]) (#[.int .i64 (l1), .int .i64 (l2), .int .i64 (h1), .int .i64 (h2), .int .i64 (g), .int .i64 (k1), .int .i64 (k2), .int .i64 (m1), .int .i64 (m2), .int .i64 (e2)]) (#[.int .i64 (t), .int .i64 (t2)]) (#[.int .i64 (x0), .int .i64 (x1), .int .i64 (y0), .int .i64 (y1), .int .i64 (u0), .int .i64 (u1), .int .i64 (z0), .int .i64 (z1)]) (#[.int .i64 (px), .int .i64 (py), .int .i64 (qx), .int .i64 (qy)]) rfl (by kernel_rfl) (by kernel_rfl) (runs_slice rfl rfl rfl rfl rfl (by decide) 2 (.agg #[.slice none 0 0, .int .i64 0]) Tryz.underlying41 (by kernel_rfl) (by decide) (by simp [go_sem, Instr.fill])) (runs_slice rfl rfl rfl rfl rfl (by decide) 5 (.agg #[.int .i64 (0), .int .i64 (0), .int .i64 (0), .int .i64 (0), .int .i64 (0)]) Tryz.underlying57 (by kernel_rfl) (by decide) (by simp [go_sem, Instr.fill])) (runs_slice rfl rfl rfl rfl rfl (by decide) 1 (.int .i64 0) Tryz.underlying44 (by kernel_rfl) (by decide) (by simp [go_sem, Instr.fill])) (runs_slice rfl rfl rfl rfl rfl (by decide) 4 (.agg #[.int .i64 (0), .int .i64 (0), .int .i64 (0), .int .i64 (0)]) Tryz.underlying46 (by kernel_rfl) (by decide) (by simp [go_sem, Instr.fill])) (runs_slice rfl rfl rfl rfl rfl (by decide) 2 (.agg #[.int .i64 (0), .int .i64 (0)]) Tryz.underlying59 (by kernel_rfl) (by decide) (by simp [go_sem, Instr.fill])) (fun g1 g2 g3 g4 g5 W6 hg hne hW6 z1 z2 z3 z4 z5 => ?_))
  simp only [valV, Nat.reduceAdd]
  simp only [Act.put, List.setIfInBounds_toArray, List.set_cons_zero, List.set_cons_succ]
  (try simp only [List.filterMap_cons, List.filterMap_nil, List.getElem?_toArray, List.getElem?_cons_zero, List.getElem?_cons_succ])
  have hu6 := hW6.up hS.out.2.1 hS.out.2.2.1
  have hraw6 := (hS.out.2.2.2.2.2.1.keeps (hW6.keeps (fun b hb e => by have := hS.out.2.2.1; omega))).mono (K' := fun _ => True) (fun _ _ _ => trivial)
  have hbod6 := (hS.out.2.2.2.2.2.2.keeps (hW6.keeps (fun b hb e => by have := hl0; omega))).mono (K' := fun _ => True) (fun _ _ _ => trivial)
  clear cn0 cn1 lcn cbw0 cbw1 lcbw cbd0 cbd1 cbd2 cbd3 cbd4 lcbd cba0 cba1 cba2 cba3 lcba cbp0 cbp1 lcbp
  have HC := hide (fmoves_cells hraw6 hbod6 HL.out.2.1 hHome.out.1 z1 z2 z3 z4 z5)
  have lG1 := z1.lt
  have lG2 := z2.lt
  have lG3 := z3.lt
  have lG4 := z4.lt
  have lG5 := z5.lt
  have HU6 := hide hu6
  clear hraw6 hbod6 hu6 hW6 hg hne z1 z2 z3 z4 z5 hS
  clear KD KR KA KP hHome HL lBW hl0 hlV1 hBN hNB hHB hBl
  go_wp2_with fail
  go_loopw [20] (fun sk wr => ∃ k : Nat, sk = .int .i64 k ∧ k ≤ 2 ∧ Hid (Up W6 wr)) (fun q _ => 2 - (intOf q).toNat)
  case atStart => exact ⟨0, by go_num, by omega, hide (Up.refl _)⟩
  case round =>
    obtain ⟨k, rfl, hk, hw⟩ := hrel
    by_cases hlt : k < 2
    · have hkb : decide ((k : Int) < 2) = true := by simp; omega
      have hkn : decide (k < 2) = true := by simp; omega
      obtain ⟨ra, rn, rc, rbs, rh, rl1, rl2, rh1, rh2, rg, rt, rx0, rx1, ry0, ry1, rpx, rpy, hb, hh, hcs⟩ := HC.out k hlt
      obtain ⟨p1, p2, p3, p4, pe, q1, q2, q3, q4, qe, k1, k2, k3, k4⟩ := fmoves_calls ra rn rc rbs rh rl1 rl2 rh1 rh2 rg rt rx0 rx1 ry0 ry1 rpx rpy hb hh
      have K1 := hide k1
      have K2 := hide k2
      have K3 := hide k3
      have K4 := hide k4
      have HCS := hide hcs
      clear hb hh k1 k2 k3 k4 hcs HC
      go_wp2_with fail
      obtain ⟨cw0, cw1, cd0, cd1, cd2, cd3, cd4, ct0, ca0, ca1, ca2, ca3, cp0, cp1⟩ := HCS.out _ hw.out
      have lg1 : g1 < wr.heap.size := Nat.lt_of_lt_of_le lG1 hw.out.below.size
      have lg2 : g2 < wr.heap.size := Nat.lt_of_lt_of_le lG2 hw.out.below.size
      have lg3 : g3 < wr.heap.size := Nat.lt_of_lt_of_le lG3 hw.out.below.size
      have lg4 : g4 < wr.heap.size := Nat.lt_of_lt_of_le lG4 hw.out.below.size
      have lg5 : g5 < wr.heap.size := Nat.lt_of_lt_of_le lG5 hw.out.below.size
      have hZ6 := hw.out.below.size
      refine wp_region_floatz (al := [(20, 21, #[.int .i64 (0), .int .i64 (0), .int .i64 (0), .int .i64 (0)], 30)]) (mv := fun _ => false) 19 [21, 22] [0, 1, 2, 3, 4, 5, 6, 7, 8, 9, 10, 11, 12, 13, 14, 15, 16, 17, 18, 19] (by kernel_rfl) (by kernel_rfl) rfl (fun _ => rfl) (fun _ _ _ _ h => h) (makes1 ⟨_, rfl, rfl, fun _ => rfl, fun _ _ => by simp [go_sem]⟩) (cls_ext _) (by first | exact drew_in2 _ _ | exact drew_in _) (Nat.le_refl _) ?_
      simp only [withOps, List.filterMap_cons, List.filterMap_nil, List.getElem?_toArray, List.getElem?_cons_zero, List.getElem?_cons_succ, Option.map_some]
      (repeat (first | (apply walkF_pure (base := fun p : Ext => ext _ p) rfl rfl rfl (by kernel_rfl); · (intro px K hK; go_big_quiet_op; first | exact hK | (apply Exists.intro; refine ⟨fun _ => ?_, ?_⟩; (· ((go_at_call 22; with_reducible exact Gives.inFloat (K1.out _ (Up.ext hw.out _))))); exact hK))) | (apply walkF_skip rfl; simp only [Act.put, List.setIfInBounds_toArray, List.set_cons_zero, List.set_cons_succ])))
      refine walkF_lazy (.int .i64 pe) rfl rfl (fun _ => by simp [go_sem]) ?_
      simp only [Act.put, List.setIfInBounds_toArray, List.set_cons_zero, List.set_cons_succ]
      refine walkF_nil (end1 (fun Q1 U hq hU bq => ?_))
      simp only [Act.put, List.setIfInBounds_toArray, List.set_cons_zero, List.set_cons_succ]
      (try simp only [List.filterMap_cons, List.filterMap_nil, List.getElem?_toArray, List.getElem?_cons_zero, List.getElem?_cons_succ])
      have hU1 : Up wr U := hU
      have HQ := hide (And.intro (hw.out.trans hU1) bq)
      have cq0 := bq.cell 0 rfl
      have cq1 := bq.cell 1 rfl
      have cq2 := bq.cell 2 rfl
      have cq3 := bq.cell 3 rfl
      have lcq := bq.lt
      have fcq0 := bq.frozen 0
      have fcq1 := bq.frozen 1
      have fcq2 := bq.frozen 2
      have fcq3 := bq.frozen 3
      clear hU hU1 bq cw0 cw1 cd0 cd1 cd2 cd3 cd4 ct0 ca0 ca1 ca2 ca3 cp0 cp1
      go_wp2_with fail
      refine forgetW (fun Y => Up W6 Y ∧ Box Y Q1 #[.int .i64 (p1), .int .i64 (p2), .int .i64 (p3), .int .i64 (p4)] 30) ⟨?_, ?_⟩ ?_
      · exact (by repeat (first | with_reducible exact HQ.out.1 | with_reducible exact Up.refl _ | with_reducible apply Up.ext | with_reducible apply Up.alloc | with_reducible apply Up.drew | (with_reducible refine Up.setCell ?_ (by simp only; omega) _)))
      · exact (by (repeat (first | with_reducible apply Box.ext | with_reducible apply Box.alloc | with_reducible apply Box.drew)); exact ((((HQ.out.2.set 0 (.int .i64 p1)).set 1 (.int .i64 p2)).set 2 (.int .i64 p3)).set 3 (.int .i64 p4)))
      rintro Z1 ⟨hz, b1⟩
      have HB := hide (And.intro hz b1)
      clear hz b1 HQ cq0 cq1 cq2 cq3 lcq fcq0 fcq1 fcq2 fcq3 hZ6 hq lg1 lg2 lg3 lg4 lg5
      obtain ⟨cw0, cw1, cd0, cd1, cd2, cd3, cd4, ct0, ca0, ca1, ca2, ca3, cp0, cp1⟩ := HCS.out _ HB.out.1
      have lg1 : g1 < Z1.heap.size := Nat.lt_of_lt_of_le lG1 HB.out.1.below.size
      have lg2 : g2 < Z1.heap.size := Nat.lt_of_lt_of_le lG2 HB.out.1.below.size
      have lg3 : g3 < Z1.heap.size := Nat.lt_of_lt_of_le lG3 HB.out.1.below.size
      have lg4 : g4 < Z1.heap.size := Nat.lt_of_lt_of_le lG4 HB.out.1.below.size
      have lg5 : g5 < Z1.heap.size := Nat.lt_of_lt_of_le lG5 HB.out.1.below.size
      have lq1 : Q1 < Z1.heap.size := HB.out.2.lt
      have hZ6 := HB.out.1.below.size
      refine wp_region_floatz (al := [(20, 23, #[.int .i64 (0), .int .i64 (0), .int .i64 (0), .int .i64 (0)], 30)]) (mv := fun _ => false) 19 [21, 22] [0, 1, 2, 3, 4, 5, 6, 7, 8, 9, 10, 11, 12, 13, 14, 15, 16, 17, 18, 19] (by kernel_rfl) (by kernel_rfl) rfl (fun _ => rfl) (fun _ _ _ _ h => h) (makes1 ⟨_, rfl, rfl, fun _ => rfl, fun _ _ => by simp [go_sem]⟩) (cls_ext _) (by first | exact drew_in2 _ _ | exact drew_in _) (Nat.le_refl _) ?_
      simp only [withOps, List.filterMap_cons, List.filterMap_nil, List.getElem?_toArray, List.getElem?_cons_zero, List.getElem?_cons_succ, Option.map_some]
      (repeat (first | (apply walkF_pure (base := fun p : Ext => ext _ p) rfl rfl rfl (by kernel_rfl); · (intro px K hK; go_big_quiet_op; first | exact hK | (apply Exists.intro; refine ⟨fun _ => ?_, ?_⟩; (· ((go_at_call 23; with_reducible exact Gives.inFloat (K2.out _ (Up.ext HB.out.1 _))))); exact hK))) | (apply walkF_skip rfl; simp only [Act.put, List.setIfInBounds_toArray, List.set_cons_zero, List.set_cons_succ])))
      refine walkF_lazy (.int .i64 pe) rfl rfl (fun _ => by simp [go_sem]) ?_
      simp only [Act.put, List.setIfInBounds_toArray, List.set_cons_zero, List.set_cons_succ]
      refine walkF_nil (end1 (fun Q2 U hq hU bq => ?_))
      simp only [Act.put, List.setIfInBounds_toArray, List.set_cons_zero, List.set_cons_succ]
      (try simp only [List.filterMap_cons, List.filterMap_nil, List.getElem?_toArray, List.getElem?_cons_zero, List.getElem?_cons_succ])
      have hU1 : Up Z1 U := hU
      have HQ := hide (And.intro (HB.out.1.trans hU1) (And.intro (HB.out.2.up hU1) bq))
      have cq0 := bq.cell 0 rfl
      have cq1 := bq.cell 1 rfl
      have cq2 := bq.cell 2 rfl
      have cq3 := bq.cell 3 rfl
      have lcq := bq.lt
      have fcq0 := bq.frozen 0
      have fcq1 := bq.frozen 1
      have fcq2 := bq.frozen 2
      have fcq3 := bq.frozen 3
      clear hU hU1 bq cw0 cw1 cd0 cd1 cd2 cd3 cd4 ct0 ca0 ca1 ca2 ca3 cp0 cp1 HB
      go_wp2_with fail
      refine forgetW (fun Y => Up W6 Y ∧ Box Y Q1 #[.int .i64 (p1), .int .i64 (p2), .int .i64 (p3), .int .i64 (p4)] 30 ∧ Box Y Q2 #[.int .i64 (p1), .int .i64 (p2), .int .i64 (p3), .int .i64 (p4)] 30) ⟨?_, ?_, ?_⟩ ?_
      · exact (by repeat (first | with_reducible exact HQ.out.1 | with_reducible exact Up.refl _ | with_reducible apply Up.ext | with_reducible apply Up.alloc | with_reducible apply Up.drew | (with_reducible refine Up.setCell ?_ (by simp only; omega) _)))
      · exact (by repeat (first | with_reducible exact HQ.out.2.1 | with_reducible apply Box.ext | with_reducible apply Box.alloc | with_reducible apply Box.drew | (with_reducible refine Box.other ?_ (by omega) _ _)))
      · exact (by (repeat (first | with_reducible apply Box.ext | with_reducible apply Box.alloc | with_reducible apply Box.drew)); exact ((((HQ.out.2.2.set 0 (.int .i64 p1)).set 1 (.int .i64 p2)).set 2 (.int .i64 p3)).set 3 (.int .i64 p4)))
      rintro Z2 ⟨hz, b1, b2⟩
      have HB := hide (And.intro hz (And.intro b1 b2))
      clear hz b1 b2 HQ cq0 cq1 cq2 cq3 lcq fcq0 fcq1 fcq2 fcq3 hZ6 hq lg1 lg2 lg3 lg4 lg5 lq1
      obtain ⟨cw0, cw1, cd0, cd1, cd2, cd3, cd4, ct0, ca0, ca1, ca2, ca3, cp0, cp1⟩ := HCS.out _ HB.out.1
      have lg1 : g1 < Z2.heap.size := Nat.lt_of_lt_of_le lG1 HB.out.1.below.size
      have lg2 : g2 < Z2.heap.size := Nat.lt_of_lt_of_le lG2 HB.out.1.below.size
      have lg3 : g3 < Z2.heap.size := Nat.lt_of_lt_of_le lG3 HB.out.1.below.size
      have lg4 : g4 < Z2.heap.size := Nat.lt_of_lt_of_le lG4 HB.out.1.below.size
      have lg5 : g5 < Z2.heap.size := Nat.lt_of_lt_of_le lG5 HB.out.1.below.size
      have lq1 : Q1 < Z2.heap.size := HB.out.2.1.lt
      have lq2 : Q2 < Z2.heap.size := HB.out.2.2.lt
      have hZ6 := HB.out.1.below.size
      refine wp_region_floatz (al := [(20, 25, #[.int .i64 (0), .int .i64 (0), .int .i64 (0), .int .i64 (0)], 30)]) (mv := fun _ => false) 19 [21, 22] [0, 1, 2, 3, 4, 5, 6, 7, 8, 9, 10, 11, 12, 13, 14, 15, 16, 17, 18, 19] (by kernel_rfl) (by kernel_rfl) rfl (fun _ => rfl) (fun _ _ _ _ h => h) (makes1 ⟨_, rfl, rfl, fun _ => rfl, fun _ _ => by simp [go_sem]⟩) (cls_ext _) (by first | exact drew_in2 _ _ | exact drew_in _) (Nat.le_refl _) ?_
      simp only [withOps, List.filterMap_cons, List.filterMap_nil, List.getElem?_toArray, List.getElem?_cons_zero, List.getElem?_cons_succ, Option.map_some]
      (repeat (first | (apply walkF_pure (base := fun p : Ext => ext _ p) rfl rfl rfl (by kernel_rfl); · (intro px K hK; go_big_quiet_op; first | exact hK | (apply Exists.intro; refine ⟨fun _ => ?_, ?_⟩; (· ((go_at_call 24; with_reducible exact Gives.inFloat (K3.out _ (Up.ext HB.out.1 _))))); exact hK))) | (apply walkF_skip rfl; simp only [Act.put, List.setIfInBounds_toArray, List.set_cons_zero, List.set_cons_succ])))
      refine walkF_lazy (.int .i64 qe) rfl rfl (fun _ => by simp [go_sem]) ?_
      simp only [Act.put, List.setIfInBounds_toArray, List.set_cons_zero, List.set_cons_succ]
      refine walkF_nil (end1 (fun Q3 U hq hU bq => ?_))
      simp only [Act.put, List.setIfInBounds_toArray, List.set_cons_zero, List.set_cons_succ]
      (try simp only [List.filterMap_cons, List.filterMap_nil, List.getElem?_toArray, List.getElem?_cons_zero, List.getElem?_cons_succ])
      have hU1 : Up Z2 U := hU
      have HQ := hide (And.intro (HB.out.1.trans hU1) (And.intro (HB.out.2.1.up hU1) (And.intro (HB.out.2.2.up hU1) bq)))
      have cq0 := bq.cell 0 rfl
      have cq1 := bq.cell 1 rfl
      have cq2 := bq.cell 2 rfl
      have cq3 := bq.cell 3 rfl
      have lcq := bq.lt
      have fcq0 := bq.frozen 0
      have fcq1 := bq.frozen 1
      have fcq2 := bq.frozen 2
      have fcq3 := bq.frozen 3
      clear hU hU1 bq cw0 cw1 cd0 cd1 cd2 cd3 cd4 ct0 ca0 ca1 ca2 ca3 cp0 cp1 HB
      go_wp2_with fail
      refine forgetW (fun Y => Up W6 Y ∧ Box Y Q1 #[.int .i64 (p1), .int .i64 (p2), .int .i64 (p3), .int .i64 (p4)] 30 ∧ Box Y Q2 #[.int .i64 (p1), .int .i64 (p2), .int .i64 (p3), .int .i64 (p4)] 30 ∧ Box Y Q3 #[.int .i64 (q1), .int .i64 (q2), .int .i64 (q3), .int .i64 (q4)] 30) ⟨?_, ?_, ?_, ?_⟩ ?_
      · exact (by repeat (first | with_reducible exact HQ.out.1 | with_reducible exact Up.refl _ | with_reducible apply Up.ext | with_reducible apply Up.alloc | with_reducible apply Up.drew | (with_reducible refine Up.setCell ?_ (by simp only; omega) _)))
      · exact (by repeat (first | with_reducible exact HQ.out.2.1 | with_reducible apply Box.ext | with_reducible apply Box.alloc | with_reducible apply Box.drew | (with_reducible refine Box.other ?_ (by omega) _ _)))
      · exact (by repeat (first | with_reducible exact HQ.out.2.2.1 | with_reducible apply Box.ext | with_reducible apply Box.alloc | with_reducible apply Box.drew | (with_reducible refine Box.other ?_ (by omega) _ _)))
      · exact (by (repeat (first | with_reducible apply Box.ext | with_reducible apply Box.alloc | with_reducible apply Box.drew)); exact ((((HQ.out.2.2.2.set 0 (.int .i64 q1)).set 1 (.int .i64 q2)).set 2 (.int .i64 q3)).set 3 (.int .i64 q4)))
      rintro Z3 ⟨hz, b1, b2, b3⟩
      have HB := hide (And.intro hz (And.intro b1 (And.intro b2 b3)))
      clear hz b1 b2 b3 HQ cq0 cq1 cq2 cq3 lcq fcq0 fcq1 fcq2 fcq3 hZ6 hq lg1 lg2 lg3 lg4 lg5 lq1 lq2
      obtain ⟨cw0, cw1, cd0, cd1, cd2, cd3, cd4, ct0, ca0, ca1, ca2, ca3, cp0, cp1⟩ := HCS.out _ HB.out.1
      have lg1 : g1 < Z3.heap.size := Nat.lt_of_lt_of_le lG1 HB.out.1.below.size
      have lg2 : g2 < Z3.heap.size := Nat.lt_of_lt_of_le lG2 HB.out.1.below.size
      have lg3 : g3 < Z3.heap.size := Nat.lt_of_lt_of_le lG3 HB.out.1.below.size
      have lg4 : g4 < Z3.heap.size := Nat.lt_of_lt_of_le lG4 HB.out.1.below.size
      have lg5 : g5 < Z3.heap.size := Nat.lt_of_lt_of_le lG5 HB.out.1.below.size
      have lq1 : Q1 < Z3.heap.size := HB.out.2.1.lt
      have lq2 : Q2 < Z3.heap.size := HB.out.2.2.1.lt
      have lq3 : Q3 < Z3.heap.size := HB.out.2.2.2.lt
      have hZ6 := HB.out.1.below.size
      refine wp_region_floatz (al := [(20, 27, #[.int .i64 (0), .int .i64 (0), .int .i64 (0), .int .i64 (0)], 30)]) (mv := fun _ => false) 19 [21, 22] [0, 1, 2, 3, 4, 5, 6, 7, 8, 9, 10, 11, 12, 13, 14, 15, 16, 17, 18, 19] (by kernel_rfl) (by kernel_rfl) rfl (fun _ => rfl) (fun _ _ _ _ h => h) (makes1 ⟨_, rfl, rfl, fun _ => rfl, fun _ _ => by simp [go_sem]⟩) (cls_ext _) (by first | exact drew_in2 _ _ | exact drew_in _) (Nat.le_refl _) ?_
      simp only [withOps, List.filterMap_cons, List.filterMap_nil, List.getElem?_toArray, List.getElem?_cons_zero, List.getElem?_cons_succ, Option.map_some]
      (repeat (first | (apply walkF_pure (base := fun p : Ext => ext _ p) rfl rfl rfl (by kernel_rfl); · (intro px K hK; go_big_quiet_op; first | exact hK | (apply Exists.intro; refine ⟨fun _ => ?_, ?_⟩; (· ((go_at_call 25; with_reducible exact Gives.inFloat (K4.out _ (Up.ext HB.out.1 _))))); exact hK))) | (apply walkF_skip rfl; simp only [Act.put, List.setIfInBounds_toArray, List.set_cons_zero, List.set_cons_succ])))
      refine walkF_lazy (.int .i64 qe) rfl rfl (fun _ => by simp [go_sem]) ?_
      simp only [Act.put, List.setIfInBounds_toArray, List.set_cons_zero, List.set_cons_succ]
      refine walkF_nil (end1 (fun Q4 U hq hU bq => ?_))
      simp only [Act.put, List.setIfInBounds_toArray, List.set_cons_zero, List.set_cons_succ]
      (try simp only [List.filterMap_cons, List.filterMap_nil, List.getElem?_toArray, List.getElem?_cons_zero, List.getElem?_cons_succ])
      have hU1 : Up Z3 U := hU
      have HQ := hide (And.intro (HB.out.1.trans hU1) (And.intro (HB.out.2.1.up hU1) (And.intro (HB.out.2.2.1.up hU1) (And.intro (HB.out.2.2.2.up hU1) bq))))
      have cq0 := bq.cell 0 rfl
      have cq1 := bq.cell 1 rfl
      have cq2 := bq.cell 2 rfl
      have cq3 := bq.cell 3 rfl
      have lcq := bq.lt
      have fcq0 := bq.frozen 0
      have fcq1 := bq.frozen 1
      have fcq2 := bq.frozen 2
      have fcq3 := bq.frozen 3
      clear hU hU1 bq cw0 cw1 cd0 cd1 cd2 cd3 cd4 ct0 ca0 ca1 ca2 ca3 cp0 cp1 HB
      have e1_0 := (HQ.out.2.1).cell 0 rfl
      have e1_1 := (HQ.out.2.1).cell 1 rfl
      have e1_2 := (HQ.out.2.1).cell 2 rfl
      have e1_3 := (HQ.out.2.1).cell 3 rfl
      have le1_ := (HQ.out.2.1).lt
      have n1 : Q1 ≠ Q4 := by omega
      have m1 : Q4 ≠ Q1 := by omega
      have e2_0 := (HQ.out.2.2.1).cell 0 rfl
      have e2_1 := (HQ.out.2.2.1).cell 1 rfl
      have e2_2 := (HQ.out.2.2.1).cell 2 rfl
      have e2_3 := (HQ.out.2.2.1).cell 3 rfl
      have le2_ := (HQ.out.2.2.1).lt
      have n2 : Q2 ≠ Q4 := by omega
      have m2 : Q4 ≠ Q2 := by omega
      have e3_0 := (HQ.out.2.2.2.1).cell 0 rfl
      have e3_1 := (HQ.out.2.2.2.1).cell 1 rfl
      have e3_2 := (HQ.out.2.2.2.1).cell 2 rfl
      have e3_3 := (HQ.out.2.2.2.1).cell 3 rfl
      have le3_ := (HQ.out.2.2.2.1).lt
      have n3 : Q3 ≠ Q4 := by omega
      have m3 : Q4 ≠ Q3 := by omega
      go_wp2
      go_roundw
      case rel => exact ⟨k + 1, by go_num, by omega, hide (by repeat (first | with_reducible exact HQ.out.1 | with_reducible exact Up.refl _ | apply Up.ext | apply Up.alloc | apply Up.drew | (refine Up.setCell ?_ (by simp [World.setCell]; try omega) _)))⟩
      case measure => simp [intOf]; omega
    · have hkb : decide ((k : Int) < 2) = false := by simp; omega
      have hkn : decide (k < 2) = false := by simp; omega
      go_wp2_with (first | (go_at_call 8; refine (awake_any _).mono ?_; intro _) | fail)
      go_ret
      exact ⟨rfl, (by repeat (first | with_reducible exact HU6.out.trans hw.out | with_reducible exact Up.refl _ | apply Up.ext | apply Up.alloc | apply Up.drew | (refine Up.setCell ?_ (by simp [World.setCell]; try omega) _)))⟩

set_option maxRecDepth 100000 in
theorem fmoves_lifted (os : Os) (started : os.Started) (H : Type) (enc : TypeId × Value → H) :
    ReturnsInHanded {} Tryz.checked os 4 .any (Rows.forceMovesSpec.pre6 enc Tryz.prog Tryz.f4 Rows.forceMovesRow.domain false) (Rows.forceMovesSpec.post enc Tryz.prog Tryz.f4 false true false false) := by
  refine returnsInHanded_of_change (C := Tryz.checked) knob_own started (by kernel_rfl) Tryz.func4
    (ChangeSpec.witness6 (enc := enc) (C := Tryz.checked) false ⟨#[], #[.agg #[.slice none 0 0, .int .i64 0], .agg #[.int .i64 (0), .int .i64 (0), .int .i64 (0), .int .i64 (0), .int .i64 (0)], .int .i64 0, .agg #[.int .i64 (0), .int .i64 (0), .int .i64 (0), .int .i64 (0)], .agg #[.int .i64 0, .int .i64 0], .slice none 0 0], []⟩ 8 (by kernel_rfl) (by kernel_rfl) (by kernel_rfl) (by kernel_rfl)) ?_
  intro W base args ds gs before hval0 hW _ _
  have hval : ∀ (j : Nat) t v, Tryz.f4.params[j]? = some t → args[j]? = some v → Value.okWide Tryz.prog W .any base t v := hval0
  have hW' := hW
  obtain ⟨p, q, hA0, hV, rfl, _, _⟩ := hW
  have hA : DataW.TrodAll enc Tryz.prog W 0 (fun _ => true) true Tryz.f4.params.toList args.toList ds p := hA0
  rw [Tryz.params4] at hA hval
  obtain ⟨v0, vs0, d0, ds0, p0, q0, hargs, rfl, rfl, h0, r0⟩ := trodAll_cons hA
  obtain ⟨v1, vs1, d1, ds1, p1, q1, rfl, rfl, rfl, h1, r1⟩ := trodAll_cons r0
  obtain ⟨v2, vs2, d2, ds2, p2, q2, rfl, rfl, rfl, h2, r2⟩ := trodAll_cons r1
  obtain ⟨v3, vs3, d3, ds3, p3, q3, rfl, rfl, rfl, h3, r3⟩ := trodAll_cons r2
  obtain ⟨v4, vs4, d4, ds4, p4, q4, rfl, rfl, rfl, h4, r4⟩ := trodAll_cons r3
  obtain ⟨v5, vs5, d5, ds5, p5, q5, rfl, rfl, rfl, h5, r5⟩ := trodAll_cons r4
  obtain ⟨rfl, rfl, rfl⟩ := trodAll_nil r5
  obtain rfl : args = #[v0, v1, v2, v3, v4, v5] := by cases args; simp_all
  obtain ⟨rfl, rfl⟩ := trodVars_none hV
  have hlt0 : ∀ x ∈ p0, x.block < W.heap.size := fun x hx => hW'.lt x (by simp [hx])
  have hv0 := hval 0 24 v0 rfl rfl
  have shut0 := shut_stay (by kernel_rfl) (by kernel_rfl) h0 hlt0
  obtain ⟨bs0, home0, hw0⟩ := open_world hv0 h0
  have hlt1 : ∀ x ∈ p1, x.block < W.heap.size := fun x hx => hW'.lt x (by simp [hx])
  have hv1 := hval 1 28 v1 rfl rfl
  have shut1 := shut_stay (by kernel_rfl) (by kernel_rfl) h1 hlt1
  obtain ⟨a1, b1, c1, e1, g1, rfl⟩ := open_drift hv1 h1
  have hlt2 : ∀ x ∈ p2, x.block < W.heap.size := fun x hx => hW'.lt x (by simp [hx])
  have hv2 := hval 2 2 v2 rfl rfl
  have shut2 := shut_stay (by kernel_rfl) (by kernel_rfl) h2 hlt2
  obtain ⟨a2, rfl, _, _, w2⟩ := open_int Tryz.underlying2 hv2 h2
  have hlt3 : ∀ x ∈ p3, x.block < W.heap.size := fun x hx => hW'.lt x (by simp [hx])
  have hv3 := hval 3 30 v3 rfl rfl
  have shut3 := shut_stay (by kernel_rfl) (by kernel_rfl) h3 hlt3
  obtain ⟨x3, y3, z3, u3, rfl, _, _, wx3, wy3, wz3, wu3⟩ := open_area hv3 h3
  have hlt4 : ∀ x ∈ p4, x.block < W.heap.size := fun x hx => hW'.lt x (by simp [hx])
  have hv4 := hval 4 55 v4 rfl rfl
  have shut4 := shut_stay (by kernel_rfl) (by kernel_rfl) h4 hlt4
  obtain ⟨x4, y4, rfl, _, _, wx4, wy4⟩ := open_vec hv4 h4
  have hlt5 : ∀ x ∈ p5, x.block < W.heap.size := fun x hx => hW'.lt x (by simp [hx])
  have hv5 := hval 5 31 v5 rfl rfl
  have shut5 := shut_stay (by kernel_rfl) (by kernel_rfl) h5 hlt5
  obtain ⟨hn5, _⟩ := open_nums hv5 h5 hlt5
  clear hA0 hval0
  simp only [List.append_nil] at hW'
  refine (fmoves_law v0 v5 hw0 a1 b1 c1 e1 g1 a2 x3 y3 z3 u3 x4 y4 hn5).mono fun px => ?_
  exact ⟨_, rfl, post_of_below (pa := (p0 ++ (p1 ++ (p2 ++ (p3 ++ (p4 ++ (p5 ++ []))))))) (pv := []) hW' (fun _ _ _ => (trodAll_cons_mk (shut_bool Tryz.underlying4 _) trodAll_mk0)) (fun sp hsp => (trodAll_cons_mk (shut0 _ sp (Up.below ⟨px, rfl⟩) (fun x hx => hsp x (by simp [hx]))) (trodAll_cons_mk (shut1 _ sp (Up.below ⟨px, rfl⟩) (fun x hx => hsp x (by simp [hx]))) (trodAll_cons_mk (shut2 _ sp (Up.below ⟨px, rfl⟩) (fun x hx => hsp x (by simp [hx]))) (trodAll_cons_mk (shut3 _ sp (Up.below ⟨px, rfl⟩) (fun x hx => hsp x (by simp [hx]))) (trodAll_cons_mk (shut4 _ sp (Up.below ⟨px, rfl⟩) (fun x hx => hsp x (by simp [hx]))) (trodAll_cons_mk (shut5 _ sp (Up.below ⟨px, rfl⟩) (fun x hx => hsp x (by simp [hx]))) trodAll_mk0))))))) (fun _ _ => rfl) (by simp)
    (Up.below ⟨px, rfl⟩) (ok_one (by kernel_rfl) rfl (okWide_bool_mk Tryz.underlying4 _))⟩

theorem fmoves_holds : Rows.ForceMovesSaid :=
  OpenClaim.holds_of_wide 4 Tryz.f4 rfl rfl rfl rfl rfl rfl rfl ⟨rfl, rfl, rfl, rfl, rfl⟩ rfl rfl rfl rfl rfl (by kernel_rfl) Tryz.func4 (by kernel_rfl)
    (of_decide_eq_true (by kernel_rfl)) (by unfold Func.isWrapper; rw [if_neg (by decide +kernel)]; exact ⟨rfl, rfl⟩)
    (fun os started H enc _ => fmoves_lifted os started H enc)
#print axioms fmoves_holds
end Go.Proofs.YtbcgdhldkanecaaGreat
