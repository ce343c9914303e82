/- ForceRules returns true for every input: energies, and which body rules a place, are what the reference says. No conditions. -/
import Derived.Test.YtbcgdhldkanecaaGreatPostn
import Derived.Test.YtbcgdhldkanecaaGreatPostb
import Derived.Test.YtbcgdhldkanecaaGreatShown
import Derived.Test.YtbcgdhldkanecaaGreatMade
import Derived.Test.YtbcgdhldkanecaaGreatFloatE
import Derived.Test.YtbcgdhldkanecaaGreatBig
import Derived.Test.YtbcgdhldkanecaaGreatFRefF
import Derived.Test.YtbcgdhldkanecaaGreatRingF
import Derived.Test.YtbcgdhldkanecaaGreatEnergy
import Derived.Test.YtbcgdhldkanecaaGreatRuler
import Derived.Test.YtbcgdhldkanecaaGreatRaw
import Derived.JoinedOf
import Derived.JoinedAt
import Derived.ChangeSame
import Derived.OpenShut
namespace Go.Proofs.YtbcgdhldkanecaaGreat
set_option linter.unusedVariables false
set_option linter.unusedSimpArgs false
open Go.RowKit Go.ChangeShapes Go.WideShapes Go.ChangeAt Go.Joins Go.Shelf

/-- what lies at place k of the slices -/
theorem frules_cells {W : World} {g1 g2 g3 g4 n c n2 c2 : Nat} {a a2 : Option Addr} {bs bs2 : List Bod} {home home2 t t2 sx sy su sv qx qy u2 v2 px py : Int} (hb : Bods (fun _ => True) W (.slice a n c) bs) (hb2 : Bods (fun _ => True) W (.slice a2 n2 c2) bs2) (hh : I64 home) (hh2 : I64 home2) (hs : I64 sx ∧ I64 sy ∧ I64 su ∧ I64 sv) (hs2 : I64 qx ∧ I64 qy ∧ I64 u2 ∧ I64 v2)
    (bg1 : Box W g1 #[.slice a n c, .int .i64 home, .slice a2 n2 c2, .int .i64 home2] 24) (bg2 : Box W g2 #[.int .i64 (t), .int .i64 (t2)] 2) (bg3 : Box W g3 #[.int .i64 (sx), .int .i64 (sy), .int .i64 (su), .int .i64 (sv), .int .i64 (qx), .int .i64 (qy), .int .i64 (u2), .int .i64 (v2)] 65) (bg4 : Box W g4 #[.int .i64 (px), .int .i64 (py), .int .i64 (qx), .int .i64 (qy)] 55) :
    ∀ k, k < 2 → ∃ (ra : Option Addr) (rn rc : Nat) (rbs : List Bod) (rh rt rx ry ru rv rpx rpy : Int), (∀ W', Up W W' → Bods (fun _ => True) W' (.slice ra rn rc) rbs) ∧ I64 rh ∧ (I64 rx ∧ I64 ry ∧ I64 ru ∧ I64 rv) ∧ ∀ W', Up W W' → W'.cell? ⟨g1, k * 2, none⟩ = some (.slice ra rn rc) ∧ W'.cell? ⟨g1, k * 2 + 1, none⟩ = some (.int .i64 rh) ∧ W'.cell? ⟨g2, k, none⟩ = some (.int .i64 rt) ∧ W'.cell? ⟨g3, k * 4, none⟩ = some (.int .i64 rx) ∧ W'.cell? ⟨g3, k * 4 + 1, none⟩ = some (.int .i64 ry) ∧ W'.cell? ⟨g3, k * 4 + 2, none⟩ = some (.int .i64 ru) ∧ W'.cell? ⟨g3, k * 4 + 3, none⟩ = some (.int .i64 rv) ∧ W'.cell? ⟨g4, k * 2, none⟩ = some (.int .i64 rpx) ∧ W'.cell? ⟨g4, k * 2 + 1, none⟩ = some (.int .i64 rpy) := by
  intro k hk
  have up : ∀ {b j : Nat} {v : Value} {W' : World}, b < W.heap.size → W.cell? ⟨b, j, none⟩ = some v → Up W W' → W'.cell? ⟨b, j, none⟩ = some v := fun {b j v W'} hb hv hu => (World.cell?_of_block (a := ⟨b, j, none⟩) (hu.below.block b hb)).trans hv
  match k, hk with
  | 0, _ => exact ⟨a, n, c, bs, home, t, sx, sy, su, sv, px, py, fun W' hu => hb.keeps (hu.keeps _), hh, hs, fun W' hu => ⟨up bg1.lt (bg1.cell 0 rfl) hu, up bg1.lt (bg1.cell 1 rfl) hu, up bg2.lt (bg2.cell 0 rfl) hu, up bg3.lt (bg3.cell 0 rfl) hu, up bg3.lt (bg3.cell 1 rfl) hu, up bg3.lt (bg3.cell 2 rfl) hu, up bg3.lt (bg3.cell 3 rfl) hu, up bg4.lt (bg4.cell 0 rfl) hu, up bg4.lt (bg4.cell 1 rfl) hu⟩⟩
  | 1, _ => exact ⟨a2, n2, c2, bs2, home2, t2, qx, qy, u2, v2, qx, qy, fun W' hu => hb2.keeps (hu.keeps _), hh2, hs2, fun W' hu => ⟨up bg1.lt (bg1.cell 2 rfl) hu, up bg1.lt (bg1.cell 3 rfl) hu, up bg2.lt (bg2.cell 1 rfl) hu, up bg3.lt (bg3.cell 4 rfl) hu, up bg3.lt (bg3.cell 5 rfl) hu, up bg3.lt (bg3.cell 6 rfl) hu, up bg3.lt (bg3.cell 7 rfl) hu, up bg4.lt (bg4.cell 2 rfl) hu, up bg4.lt (bg4.cell 3 rfl) hu⟩⟩
/-- what a round calls, with letters for the values -/
theorem frules_calls {W : World} (ra : Option Addr) (rn rc : Nat) (rbs : List Bod) (rh rt rx ry ru rv rpx rpy : Int) (hb : ∀ W', Up W W' → Bods (fun _ => True) W' (.slice ra rn rc) rbs) (hh : I64 rh) (hs : I64 rx ∧ I64 ry ∧ I64 ru ∧ I64 rv) :
    ∃ (p1 p2 pe m : Int) (is : Bool), (∀ W', Up W W' → Gives Tryz.prog 30 #[.agg #[.slice ra rn rc, .int .i64 rh], .int .i64 rt, .agg #[.int .i64 (rx), .int .i64 (ry), .int .i64 (ru), .int .i64 (rv)]] W' (.tuple #[.agg #[.int .i64 (p1), .int .i64 (p2)], .int .i64 pe])) ∧ (∀ W', Up W W' → Gives Tryz.prog 31 #[.agg #[.slice ra rn rc, .int .i64 rh], .int .i64 rt, .agg #[.int .i64 (rx), .int .i64 (ry), .int .i64 (ru), .int .i64 (rv)]] W' (.tuple #[.agg #[.int .i64 (p1), .int .i64 (p2)], .int .i64 pe])) ∧ (∀ W', Up W W' → Gives Tryz.prog 32 #[.agg #[.slice ra rn rc, .int .i64 rh], .int .i64 rt, .agg #[.int .i64 (rpx), .int .i64 (rpy)]] W' (.tuple #[.int .i64 m, .bool is])) ∧ (∀ W', Up W W' → Gives Tryz.prog 33 #[.agg #[.slice ra rn rc, .int .i64 rh], .int .i64 rt, .agg #[.int .i64 (rpx), .int .i64 (rpy)]] W' (.tuple #[.int .i64 m, .bool is])) := by
  obtain ⟨⟨⟨p1, p2⟩, pe⟩, hp⟩ : ∃ R, energyV rbs rh rt rx ry ru rv = R := ⟨_, rfl⟩
  obtain ⟨⟨m, is⟩, hm⟩ : ∃ R, rulerV rbs rh rt rpx rpy = R := ⟨_, rfl⟩
  refine ⟨p1, p2, pe, m, is, fun W' hu => ?_, fun W' hu => ?_, fun W' hu => ?_, fun W' hu => ?_⟩
  · have := fEnergy_any (hb W' hu) hh rt rx ry ru rv
    rw [hp] at this
    exact this
  · have := g_Energy (hb W' hu) hh rt rx ry ru rv
    rw [hp] at this
    exact this
  · have := fRuler_any (hb W' hu) hh rt rpx rpy
    rw [hm] at this
    exact this
  · have := g_Ruler (hb W' hu) hh rt rpx rpy
    rw [hm] at this
    exact this

set_option maxRecDepth 100000 in
set_option maxHeartbeats 100000000 in
theorem frules_law (v0 v4 : Value) {w : World} {bs0 : List Bod} {home0 : Int} (hW0 : WorldIn (fun b => b < w.heap.size) w v0 bs0 home0) (t sx sy su sv px py : Int) (hS0 : I64 sx ∧ I64 sy ∧ I64 su ∧ I64 sv) (hN : Nums w v4) :
    Gives Tryz.prog 6 #[v0, .int .i64 t, .agg #[.int .i64 (sx), .int .i64 (sy), .int .i64 (su), .int .i64 (sv)], .agg #[.int .i64 (px), .int .i64 (py)], v4] w (.bool true) := by
  obtain ⟨sa, sn, sc, rfl⟩ := hN.form
  obtain ⟨_, rfl, ⟨a0, c0, rfl, hl0⟩, hh0⟩ := hW0
  have hl : Bods (fun b => b < w.heap.size) w (.slice a0 bs0.length c0) bs0 := ⟨a0, c0, rfl, hl0⟩
  clear hl0
  have HL := hide (And.intro hl (And.intro hh0 hN))
  have HS0 := hide hS0
  clear hl hh0 hN hS0
  obtain ⟨H, hH⟩ : ∃ H, w.heap.size = H := ⟨_, rfl⟩
  (unfold Gives; go_enter Tryz.func6, Tryz.ntmps6)
  go_wp2_with fail
  go_at_call 7
  try rw [hH]
  refine forgetE (fun Y => Up w Y ∧ Box Y H #[.slice a0 bs0.length c0, .int .i64 home0] 24 ∧ Box Y (H + 1) #[.int .i64 (sx), .int .i64 (sy), .int .i64 (su), .int .i64 (sv)] 65 ∧ Box Y (H + 1 + 1) #[.int .i64 (px), .int .i64 (py)] 55) ⟨(by repeat (first | with_reducible exact Up.refl _ | with_reducible apply Up.plus | apply Up.ext | apply Up.alloc | apply Up.drew | (refine Up.setCell ?_ (by simp; try omega) _))), by rw [← hH]; exact (by repeat (first | exact Box.mk rfl | (refine Box.mk ?_; simp; done) | apply Box.ext | apply Box.drew | apply Box.alloc | apply Box.two1 | (refine Box.other ?_ (by omega) _ _))), by rw [← hH]; exact (by repeat (first | exact Box.mk rfl | (refine Box.mk ?_; simp; done) | apply Box.ext | apply Box.drew | apply Box.alloc | apply Box.two1 | (refine Box.other ?_ (by omega) _ _))), by rw [← hH]; exact (by repeat (first | exact Box.mk rfl | (refine Box.mk ?_; simp; done) | apply Box.ext | apply Box.drew | apply Box.alloc | apply Box.two1 | (refine Box.other ?_ (by omega) _ _)))⟩ ?_
  rintro Y1 ⟨hu1, bbw, bbs, bbp⟩
  refine (bigworld_any (home := home0) (HL.out.1.keeps (hu1.keeps _))).mono ?_
  rintro _ _ ⟨bb, p1, rfl, rfl⟩
  cases bb
  case true =>
    go_wp2_with (first | (go_at_call 8; refine (awake_any _).mono ?_; intro _) | fail)
    go_ret
    exact ⟨rfl, (by repeat (first | with_reducible exact hu1 | with_reducible exact Up.refl _ | apply Up.ext | apply Up.alloc | apply Up.drew | (refine Up.setCell ?_ (by simp [World.setCell]; try omega) _)))⟩
  case false =>
  go_wp2_with fail
  go_at_call 9
  refine (newring_any _ _ _ _).mono ?_
  rintro _ _ ⟨rfl, rfl⟩
  go_wp2_with fail
  go_at_call 10
  obtain ⟨B, hB⟩ : ∃ T, Y1.heap.size + p1.os.size = T := ⟨_, rfl⟩
  try simp only [ext_size]
  rw [hB]
  refine forgetE (fun Y => Up w Y ∧ Y.heap.size = B + 1 ∧ Box Y B #[.slice sa sn sc, .int .i64 0] 78 ∧ Box Y H #[.slice a0 bs0.length c0, .int .i64 home0] 24 ∧ Box Y (H + 1) #[.int .i64 (sx), .int .i64 (sy), .int .i64 (su), .int .i64 (sv)] 65 ∧ Box Y (H + 1 + 1) #[.int .i64 (px), .int .i64 (py)] 55) ⟨(by repeat (first | with_reducible exact hu1 | with_reducible exact Up.refl _ | apply Up.ext | apply Up.alloc | apply Up.drew | (refine Up.setCell ?_ (by simp [World.setCell]; try omega) _))), by simp; omega, Box.mk (by simp; omega), (by repeat (first | with_reducible exact bbw | apply Box.ext | apply Box.drew | apply Box.alloc | (refine Box.other ?_ (by simp; try omega) _ _))), (by repeat (first | with_reducible exact bbs | apply Box.ext | apply Box.drew | apply Box.alloc | (refine Box.other ?_ (by simp; try omega) _ _))), (by repeat (first | with_reducible exact bbp | apply Box.ext | apply Box.drew | apply Box.alloc | (refine Box.other ?_ (by simp; try omega) _ _)))⟩ ?_
  rintro W0 ⟨hu0, hl0, hb0, hbw, hbs, hbp⟩
  have hBl : w.heap.size ≤ B := by have := hu1.below.size; omega
  have hHB : H + 1 + 1 < B := by have := bbp.lt; omega
  clear hB hu1 bbw bbs bbp
  refine (skyof_at HL.out.2.2 hBl hu0 hb0 (RingAt.start (n := 0) hb0 (by omega) (by omega)) (by omega)).mono ?_
  rintro _ V1 ⟨_, s, rfl, ⟨_, vs, vc, rfl, hbod, hhome, _, _⟩, hsm, hR1, hg1⟩
  obtain ⟨b1, c1, rfl, hbl⟩ := hbod
  have hbod : Bods (fun b => W0.heap.size ≤ b) V1 (.slice b1 s.bodies.length c1) s.bodies := ⟨b1, c1, rfl, hbl⟩
  clear hbl
  have hraw : Bods (fun b => b < w.heap.size) V1 (.slice a0 bs0.length c0) bs0 := (HL.out.1.keeps (hu0.keeps _)).keeps ((Keeps.refl _ W0).turn hg1 (by intro b e; cases e; omega))
  have hlV1 := hR1.size
  have qbw := hR1.other hbw (by omega)
  have qbs := hR1.other hbs (by omega)
  have qbp := hR1.other hbp (by omega)
  obtain ⟨N, hNN⟩ : ∃ N, V1.heap.size = N := ⟨_, rfl⟩
  have hBN : B < N := by omega
  have hHome := hide (And.intro hhome hsm)
  clear hg1 hhome hsm hbw hbs hbp
  go_wp2_with fail
  try rw [hNN]
  go_at_call 21
  refine forgetE (fun Y => RingAt W0 B 60 Y ∧ Box Y N #[.slice b1 s.bodies.length c1, .int .i64 s.home] 24 ∧ Box Y H #[.slice a0 bs0.length c0, .int .i64 home0] 24 ∧ Box Y (H + 1) #[.int .i64 (sx), .int .i64 (sy), .int .i64 (su), .int .i64 (sv)] 65 ∧ Box Y (H + 1 + 1) #[.int .i64 (px), .int .i64 (py)] 55 ∧ Bods (fun b => b < w.heap.size) Y (.slice a0 bs0.length c0) bs0 ∧ Bods (fun b => W0.heap.size ≤ b) Y (.slice b1 s.bodies.length c1) s.bodies) ⟨(hR1.alloc _).mono (by omega), by rw [← hNN]; exact (by repeat (first | exact Box.mk rfl | (refine Box.mk ?_; simp; done) | apply Box.ext | apply Box.drew | apply Box.alloc | apply Box.two1 | (refine Box.other ?_ (by omega) _ _))), (by repeat (first | with_reducible exact qbw | apply Box.ext | apply Box.drew | apply Box.alloc | (refine Box.other ?_ (by simp; try omega) _ _))), (by repeat (first | with_reducible exact qbs | apply Box.ext | apply Box.drew | apply Box.alloc | (refine Box.other ?_ (by simp; try omega) _ _))), (by repeat (first | with_reducible exact qbp | apply Box.ext | apply Box.drew | apply Box.alloc | (refine Box.other ?_ (by simp; try omega) _ _))), hraw.keeps (Up.keeps (by repeat (first | with_reducible exact Up.refl _ | with_reducible apply Up.plus | apply Up.ext | apply Up.alloc | apply Up.drew | (refine Up.setCell ?_ (by simp; try omega) _))) _), hbod.keeps (Up.keeps (by repeat (first | with_reducible exact Up.refl _ | with_reducible apply Up.plus | apply Up.ext | apply Up.alloc | apply Up.drew | (refine Up.setCell ?_ (by simp; try omega) _))) _)⟩ ?_
  rintro W5 ⟨hR5, bn, jbw, jbs, jbp, hraw, hbod⟩
  clear hNN hR1 qbw qbs qbp
  have hN5 := bn.lt
  refine ((pointof_k HL.out.2.2 hBl (n := 2500) (by omega) (by omega)).at hu0 hb0 hBl hR5 (by omega)).mono ?_
  rintro _ V6 ⟨_, rfl, ⟨qx, qy, hx1, hx2, hy1, hy2, rfl⟩, hR6, hg6⟩
  have hQQ := hide (And.intro (And.intro hx1 hx2) (And.intro hy1 hy2))
  clear hx1 hx2 hy1 hy2
  have bn := bn.grown hg6 (fun e => by cases e; omega)
  have jbw := jbw.grown hg6 (fun e => by cases e; omega)
  have jbs := jbs.grown hg6 (fun e => by cases e; omega)
  have jbp := jbp.grown hg6 (fun e => by cases e; omega)
  have hraw := hraw.keeps ((Keeps.refl _ W5).turn hg6 (by intro b e; cases e; omega))
  have hbod := hbod.keeps ((Keeps.refl _ W5).turn hg6 (by intro b e; cases e; omega))
  obtain ⟨N2, hNN2⟩ : ∃ N, V6.heap.size = N := ⟨_, rfl⟩
  have hBN2 : B < N2 := by have := hR6.size; omega
  have hNN : N < N2 := by have := bn.lt; omega
  clear hg6 hR5 hN5
  go_wp2_with fail
  try rw [hNN2]
  refine forgetW (fun Y => RingAt W0 B 62 Y ∧ Box Y N2 #[.int .i64 (qx), .int .i64 (qy)] 55 ∧ Box Y N #[.slice b1 s.bodies.length c1, .int .i64 s.home] 24 ∧ Box Y H #[.slice a0 bs0.length c0, .int .i64 home0] 24 ∧ Box Y (H + 1) #[.int .i64 (sx), .int .i64 (sy), .int .i64 (su), .int .i64 (sv)] 65 ∧ Box Y (H + 1 + 1) #[.int .i64 (px), .int .i64 (py)] 55 ∧ Bods (fun b => b < w.heap.size) Y (.slice a0 bs0.length c0) bs0 ∧ Bods (fun b => W0.heap.size ≤ b) Y (.slice b1 s.bodies.length c1) s.bodies) ⟨(hR6.alloc _).mono (by omega), by rw [← hNN2]; exact (by repeat (first | exact Box.mk rfl | (refine Box.mk ?_; simp; done) | apply Box.ext | apply Box.drew | apply Box.alloc | apply Box.two1 | (refine Box.other ?_ (by omega) _ _))), (by repeat (first | with_reducible exact bn | apply Box.ext | apply Box.drew | apply Box.alloc | (refine Box.other ?_ (by simp; try omega) _ _))), (by repeat (first | with_reducible exact jbw | apply Box.ext | apply Box.drew | apply Box.alloc | (refine Box.other ?_ (by simp; try omega) _ _))), (by repeat (first | with_reducible exact jbs | apply Box.ext | apply Box.drew | apply Box.alloc | (refine Box.other ?_ (by simp; try omega) _ _))), (by repeat (first | with_reducible exact jbp | apply Box.ext | apply Box.drew | apply Box.alloc | (refine Box.other ?_ (by simp; try omega) _ _))), hraw.keeps (Up.keeps (by repeat (first | with_reducible exact Up.refl _ | with_reducible apply Up.plus | apply Up.ext | apply Up.alloc | apply Up.drew | (refine Up.setCell ?_ (by simp; try omega) _))) _), hbod.keeps (Up.keeps (by repeat (first | with_reducible exact Up.refl _ | with_reducible apply Up.plus | apply Up.ext | apply Up.alloc | apply Up.drew | (refine Up.setCell ?_ (by simp; try omega) _))) _)⟩ ?_
  clear bn jbw jbs jbp hraw hbod
  rintro W7 ⟨hR5, bq, bn, jbw, jbs, jbp, hraw, hbod⟩
  clear hNN2 hR6
  obtain ⟨tr, tr0, tr1, hbr⟩ := hR5.box hb0
  have hu5 := hR5.up hu0 hBl
  have hNB : N ≠ B := by omega
  have hNB2 : N2 ≠ B := by omega
  have hS := hide (And.intro hbr (And.intro hu5 (And.intro hBl (And.intro hb0 (And.intro hu0 (And.intro hraw hbod))))))
  have cn0 := bn.cell 0 rfl
  have cn1 := bn.cell 1 rfl
  have lcn := bn.lt
  have cq0 := bq.cell 0 rfl
  have cq1 := bq.cell 1 rfl
  have lcq := bq.lt
  have cbw0 := jbw.cell 0 rfl
  have cbw1 := jbw.cell 1 rfl
  have lcbw := jbw.lt
  have cbs0 := jbs.cell 0 rfl
  have cbs1 := jbs.cell 1 rfl
  have cbs2 := jbs.cell 2 rfl
  have cbs3 := jbs.cell 3 rfl
  have lcbs := jbs.lt
  have cbp0 := jbp.cell 0 rfl
  have cbp1 := jbp.cell 1 rfl
  have lcbp := jbp.lt
  have lBW : B < W7.heap.size := hbr.lt
  have KR := hide (range_r (lo := 0) (hi := 50) HL.out.2.2 hBl (by omega) (by omega) (by omega))
  have KU := hide (range_r (lo := -900) (hi := 900) HL.out.2.2 hBl (by omega) (by omega) (by omega))
  clear hraw hbod hb0 hu0 hR5 hu5 hbr bn bq jbw jbs jbp
  refine wp_region_floatV (al := [⟨2, 39, 2, 24, none⟩, ⟨6, 43, 2, 2, none⟩, ⟨17, 54, 2, 65, none⟩, ⟨20, 57, 2, 55, none⟩, ⟨21, 14, 2, 24, some 2⟩, ⟨22, 15, 2, 2, some 6⟩, ⟨23, 16, 2, 65, some 17⟩, ⟨24, 17, 2, 55, some 20⟩]) (mv := fun k => k == 5 || k == 13 || k == 15) [] [0, 1, 2, 3, 4, 7, 8, 9, 10, 11, 12, 14, 18, 19, 20, 5, 6, 13, 15, 16, 17] (by kernel_rfl) (by kernel_rfl) (by kernel_rfl) (cls_ring _ B tr) (ringAt_drew hS.out.1 tr0 (Int.le_refl _)) (Nat.le_refl _) ?_
  simp only [withOps, List.filterMap_cons, List.filterMap_nil, List.getElem?_toArray, List.getElem?_cons_zero, List.getElem?_cons_succ, Option.map_some]
  refine walkV_seg 100 2 (by kernel_rfl) ?_
  simp only [List.take_succ_cons, List.take_zero, List.drop_succ_cons, List.drop_zero]
  (repeat (first | (apply walkF_pure (base := ringBase _ _) rfl rfl rfl (by kernel_rfl); · (rintro ⟨tx, px⟩ K hK; unfold ringBase; dsimp only; go_big_quiet_op; first | exact hK | (apply Exists.intro; refine ⟨fun _ => ?_, ?_⟩; (· (fail)); exact hK))) | (apply walkF_skip rfl; simp only [Act.put, List.setIfInBounds_toArray, List.set_cons_zero, List.set_cons_succ])))
  refine walkF_nil ?_
  refine walkV_mk (by kernel_rfl) (makesV_one (⟨2, 39, 2, 24, none⟩ : Mk) (#[.slice a0 bs0.length c0, .int .i64 home0, .slice b1 s.bodies.length c1, .int .i64 s.home]) (by simp) rfl (by decide) (runs_slice rfl rfl rfl rfl rfl (by decide) 2 (.agg #[.slice none 0 0, .int .i64 0]) Tryz.underlying41 (by kernel_rfl) (by decide) (by simp [go_sem, Instr.fill]))) ?_
  refine walkV_seg 100 11 (by kernel_rfl) ?_
  simp only [List.take_succ_cons, List.take_zero, List.drop_succ_cons, List.drop_zero]
  (repeat (first | (apply walkF_pure (base := ringBase _ _) rfl rfl rfl (by kernel_rfl); · (rintro ⟨tx, px⟩ K hK; unfold ringBase; dsimp only; go_big_quiet_op; first | exact hK | (apply Exists.intro; refine ⟨fun _ => ?_, ?_⟩; (· (fail)); exact hK))) | (apply walkF_skip rfl; simp only [Act.put, List.setIfInBounds_toArray, List.set_cons_zero, List.set_cons_succ])))
  refine walkF_nil ?_
  refine walkV_mk (by kernel_rfl) (makesV_one (⟨20, 57, 2, 55, none⟩ : Mk) (#[.int .i64 (px), .int .i64 (py), .int .i64 (qx), .int .i64 (qy)]) (by simp) rfl (by decide) (runs_slice rfl rfl rfl rfl rfl (by decide) 2 (.agg #[.int .i64 (0), .int .i64 (0)]) Tryz.underlying59 (by kernel_rfl) (by decide) (by simp [go_sem, Instr.fill]))) ?_
  refine walkV_seg 100 1 (by kernel_rfl) ?_
  simp only [List.take_succ_cons, List.take_zero, List.drop_succ_cons, List.drop_zero]
  refine walkF_call _ _ (ring_call KR.out hS.out.2.1 hS.out.1 hS.out.2.2.1 lBW (by omega)) (fun _ _ => cls_ring _ _ _) rfl rfl (fun _ => by simp [go_sem]) ?_
  rintro _ ⟨t2, _, _, rfl⟩
  simp only [Act.put, List.setIfInBounds_toArray, List.set_cons_zero, List.set_cons_succ]
  refine walkF_nil ?_
  refine walkV_mk (by kernel_rfl) (makesV_one (⟨6, 43, 2, 2, none⟩ : Mk) (#[.int .i64 (t), .int .i64 (t2)]) (by simp) rfl (by decide) (runs_slice rfl rfl rfl rfl rfl (by decide) 1 (.int .i64 0) Tryz.underlying44 (by kernel_rfl) (by decide) (by simp [go_sem, Instr.fill]))) ?_
  refine walkV_seg 100 3 (by kernel_rfl) ?_
  simp only [List.take_succ_cons, List.take_zero, List.drop_succ_cons, List.drop_zero]
  refine walkF_call _ _ (ring_call KU.out hS.out.2.1 hS.out.1 hS.out.2.2.1 lBW (by omega)) (fun _ _ => cls_ring _ _ _) rfl rfl (fun _ => by simp [go_sem]) ?_
  rintro _ ⟨u2, hu21, hu22, rfl⟩
  simp only [Act.put, List.setIfInBounds_toArray, List.set_cons_zero, List.set_cons_succ]
  refine walkF_call _ _ (ring_call KU.out hS.out.2.1 hS.out.1 hS.out.2.2.1 lBW (by omega)) (fun _ _ => cls_ring _ _ _) rfl rfl (fun _ => by simp [go_sem]) ?_
  rintro _ ⟨v2, hv21, hv22, rfl⟩
  simp only [Act.put, List.setIfInBounds_toArray, List.set_cons_zero, List.set_cons_succ]
  have HUV := hide (And.intro (And.intro hu21 hu22) (And.intro hv21 hv22))
  clear hu21 hu22 hv21 hv22
  (repeat (first | (apply walkF_pure (base := ringBase _ _) rfl rfl rfl (by kernel_rfl); · (rintro ⟨tx, px⟩ K hK; unfold ringBase; dsimp only; go_big_quiet_op; first | exact hK | (apply Exists.intro; refine ⟨fun _ => ?_, ?_⟩; (· (fail)); exact hK))) | (apply walkF_skip rfl; simp only [Act.put, List.setIfInBounds_toArray, List.set_cons_zero, List.set_cons_succ])))
  refine walkF_nil ?_
  refine walkV_mk (by kernel_rfl) (makesV_one (⟨17, 54, 2, 65, none⟩ : Mk) (#[.int .i64 (sx), .int .i64 (sy), .int .i64 (su), .int .i64 (sv), .int .i64 (qx), .int .i64 (qy), .int .i64 (u2), .int .i64 (v2)]) (by simp) rfl (by decide) (runs_slice rfl rfl rfl rfl rfl (by decide) 4 (.agg #[.int .i64 (0), .int .i64 (0), .int .i64 (0), .int .i64 (0)]) Tryz.underlying66 (by kernel_rfl) (by decide) (by simp [go_sem, Instr.fill]))) ?_
  refine walkV_nil (endV4 (#[.slice a0 bs0.length c0, .int .i64 home0, .slice b1 s.bodies.length c1, .int .i64 s.home]) (#[.int .i64 (t), .int .i64 (t2)]) (#[.int .i64 (sx), .int .i64 (sy), .int .i64 (su), .int .i64 (sv), .int .i64 (qx), .int .i64 (qy), .int .i64 (u2), .int .i64 (v2)]) (#[.int .i64 (px), .int .i64 (py), .int .i64 (qx), .int .i64 (qy)]) rfl (by kernel_rfl) (by kernel_rfl) (runs_slice rfl rfl rfl rfl rfl (by decide) 2 (.agg #[.slice none 0 0, .int .i64 0]) Tryz.underlying41 (by kernel_rfl) (by decide) (by simp [go_sem, Instr.fill])) (runs_slice rfl rfl rfl rfl rfl (by decide) 1 (.int .i64 0) Tryz.underlying44 (by kernel_rfl) (by decide) (by simp [go_sem, Instr.fill])) (runs_slice rfl rfl rfl rfl rfl (by decide) 4 (.agg #[.int .i64 (0), .int .i64 (0), .int .i64 (0), .int .i64 (0)]) Tryz.underlying66 (by kernel_rfl) (by decide) (by simp [go_sem, Instr.fill])) (runs_slice rfl rfl rfl rfl rfl (by decide) 2 (.agg #[.int .i64 (0), .int .i64 (0)]) Tryz.underlying59 (by kernel_rfl) (by decide) (by simp [go_sem, Instr.fill])) (fun g1 g2 g3 g4 W6 hg hne hW6 z1 z2 z3 z4 => ?_))
  simp only [valV, Nat.reduceAdd]
  simp only [Act.put, List.setIfInBounds_toArray, List.set_cons_zero, List.set_cons_succ]
  (try simp only [List.filterMap_cons, List.filterMap_nil, List.getElem?_toArray, List.getElem?_cons_zero, List.getElem?_cons_succ])
  have hu6 := hW6.up hS.out.2.1 hS.out.2.2.1
  have hraw6 := (hS.out.2.2.2.2.2.1.keeps (hW6.keeps (fun b hb e => by have := hS.out.2.2.1; omega))).mono (K' := fun _ => True) (fun _ _ _ => trivial)
  have hbod6 := (hS.out.2.2.2.2.2.2.keeps (hW6.keeps (fun b hb e => by have := hl0; omega))).mono (K' := fun _ => True) (fun _ _ _ => trivial)
  clear cn0 cn1 lcn cq0 cq1 lcq cbw0 cbw1 lcbw cbs0 cbs1 cbs2 cbs3 lcbs cbp0 cbp1 lcbp
  have HC := hide (frules_cells hraw6 hbod6 HL.out.2.1 hHome.out.1 HS0.out (by have := hQQ.out; have := HUV.out; unfold I64; omega) z1 z2 z3 z4)
  have lG1 := z1.lt
  have lG2 := z2.lt
  have lG3 := z3.lt
  have lG4 := z4.lt
  have HU6 := hide hu6
  clear hraw6 hbod6 hu6 hW6 hg hne z1 z2 z3 z4 hS
  clear KR KU hHome HL lBW hl0 hlV1 hBN hNB hHB hBl hBN2 hNN hNB2 hQQ HUV HS0
  go_wp2_with fail
  go_loopw [18] (fun sk wr => ∃ k : Nat, sk = .int .i64 k ∧ k ≤ 2 ∧ Hid (Up W6 wr)) (fun q _ => 2 - (intOf q).toNat)
  case atStart => exact ⟨0, by go_num, by omega, hide (Up.refl _)⟩
  case round =>
    obtain ⟨k, rfl, hk, hw⟩ := hrel
    by_cases hlt : k < 2
    · have hkb : decide ((k : Int) < 2) = true := by simp; omega
      have hkn : decide (k < 2) = true := by simp; omega
      obtain ⟨ra, rn, rc, rbs, rh, rt, rx, ry, ru, rv, rpx, rpy, hb, hh, hs, hcs⟩ := HC.out k hlt
      obtain ⟨p1, p2, pe, m, is, k1, k2, k3, k4⟩ := frules_calls ra rn rc rbs rh rt rx ry ru rv rpx rpy hb hh hs
      have K1 := hide k1
      have K2 := hide k2
      have K3 := hide k3
      have K4 := hide k4
      have HCS := hide hcs
      clear hb hh hs k1 k2 k3 k4 hcs HC
      go_wp2_with fail
      obtain ⟨cw0, cw1, ct0, cs0, cs1, cs2, cs3, cp0, cp1⟩ := HCS.out _ hw.out
      have lg1 : g1 < wr.heap.size := Nat.lt_of_lt_of_le lG1 hw.out.below.size
      have lg2 : g2 < wr.heap.size := Nat.lt_of_lt_of_le lG2 hw.out.below.size
      have lg3 : g3 < wr.heap.size := Nat.lt_of_lt_of_le lG3 hw.out.below.size
      have lg4 : g4 < wr.heap.size := Nat.lt_of_lt_of_le lG4 hw.out.below.size
      have hZ6 := hw.out.below.size
      refine wp_region_floatz (al := [(16, 19, #[.int .i64 (0), .int .i64 (0)], 26)]) (mv := fun _ => false) 15 [17, 18] [0, 1, 2, 3, 4, 5, 6, 7, 8, 9, 10, 11, 12, 13, 14, 15] (by kernel_rfl) (by kernel_rfl) rfl (fun _ => rfl) (fun _ _ _ _ h => h) (makes1 ⟨_, rfl, rfl, fun _ => rfl, fun _ _ => by simp [go_sem]⟩) (cls_ext _) (by first | exact drew_in2 _ _ | exact drew_in _) (Nat.le_refl _) ?_
      simp only [withOps, List.filterMap_cons, List.filterMap_nil, List.getElem?_toArray, List.getElem?_cons_zero, List.getElem?_cons_succ, Option.map_some]
      (repeat (first | (apply walkF_pure (base := fun p : Ext => ext _ p) rfl rfl rfl (by kernel_rfl); · (intro px K hK; go_big_quiet_op; first | exact hK | (apply Exists.intro; refine ⟨fun _ => ?_, ?_⟩; (· ((go_at_call 30; with_reducible exact Gives.inFloat (K1.out _ (Up.ext hw.out _))))); exact hK))) | (apply walkF_skip rfl; simp only [Act.put, List.setIfInBounds_toArray, List.set_cons_zero, List.set_cons_succ])))
      refine walkF_lazy (.int .i64 pe) rfl rfl (fun _ => by simp [go_sem]) ?_
      simp only [Act.put, List.setIfInBounds_toArray, List.set_cons_zero, List.set_cons_succ]
      refine walkF_nil (end1 (fun Q1 U hq hU bq => ?_))
      simp only [Act.put, List.setIfInBounds_toArray, List.set_cons_zero, List.set_cons_succ]
      (try simp only [List.filterMap_cons, List.filterMap_nil, List.getElem?_toArray, List.getElem?_cons_zero, List.getElem?_cons_succ])
      have hU1 : Up wr U := hU
      have HQ := hide (And.intro (hw.out.trans hU1) bq)
      have cq0 := bq.cell 0 rfl
      have cq1 := bq.cell 1 rfl
      have lcq := bq.lt
      have fcq0 := bq.frozen 0
      have fcq1 := bq.frozen 1
      clear hU hU1 bq cw0 cw1 ct0 cs0 cs1 cs2 cs3 cp0 cp1
      go_wp2_with fail
      refine forgetW (fun Y => Up W6 Y ∧ Box Y Q1 #[.int .i64 (p1), .int .i64 (p2)] 26) ⟨?_, ?_⟩ ?_
      · exact (by repeat (first | with_reducible exact HQ.out.1 | with_reducible exact Up.refl _ | with_reducible apply Up.ext | with_reducible apply Up.alloc | with_reducible apply Up.drew | (with_reducible refine Up.setCell ?_ (by simp only; omega) _)))
      · exact (by (repeat (first | with_reducible apply Box.ext | with_reducible apply Box.alloc | with_reducible apply Box.drew)); exact ((HQ.out.2.set 0 (.int .i64 p1)).set 1 (.int .i64 p2)))
      rintro Z1 ⟨hz, b1⟩
      have HB := hide (And.intro hz b1)
      clear hz b1 HQ cq0 cq1 lcq fcq0 fcq1 hZ6 hq lg1 lg2 lg3 lg4
      obtain ⟨cw0, cw1, ct0, cs0, cs1, cs2, cs3, cp0, cp1⟩ := HCS.out _ HB.out.1
      have lg1 : g1 < Z1.heap.size := Nat.lt_of_lt_of_le lG1 HB.out.1.below.size
      have lg2 : g2 < Z1.heap.size := Nat.lt_of_lt_of_le lG2 HB.out.1.below.size
      have lg3 : g3 < Z1.heap.size := Nat.lt_of_lt_of_le lG3 HB.out.1.below.size
      have lg4 : g4 < Z1.heap.size := Nat.lt_of_lt_of_le lG4 HB.out.1.below.size
      have lq1 : Q1 < Z1.heap.size := HB.out.2.lt
      have hZ6 := HB.out.1.below.size
      refine wp_region_floatz (al := [(16, 21, #[.int .i64 (0), .int .i64 (0)], 26)]) (mv := fun _ => false) 15 [17, 18] [0, 1, 2, 3, 4, 5, 6, 7, 8, 9, 10, 11, 12, 13, 14, 15] (by kernel_rfl) (by kernel_rfl) rfl (fun _ => rfl) (fun _ _ _ _ h => h) (makes1 ⟨_, rfl, rfl, fun _ => rfl, fun _ _ => by simp [go_sem]⟩) (cls_ext _) (by first | exact drew_in2 _ _ | exact drew_in _) (Nat.le_refl _) ?_
      simp only [withOps, List.filterMap_cons, List.filterMap_nil, List.getElem?_toArray, List.getElem?_cons_zero, List.getElem?_cons_succ, Option.map_some]
      (repeat (first | (apply walkF_pure (base := fun p : Ext => ext _ p) rfl rfl rfl (by kernel_rfl); · (intro px K hK; go_big_quiet_op; first | exact hK | (apply Exists.intro; refine ⟨fun _ => ?_, ?_⟩; (· ((go_at_call 31; with_reducible exact Gives.inFloat (K2.out _ (Up.ext HB.out.1 _))))); exact hK))) | (apply walkF_skip rfl; simp only [Act.put, List.setIfInBounds_toArray, List.set_cons_zero, List.set_cons_succ])))
      refine walkF_lazy (.int .i64 pe) rfl rfl (fun _ => by simp [go_sem]) ?_
      simp only [Act.put, List.setIfInBounds_toArray, List.set_cons_zero, List.set_cons_succ]
      refine walkF_nil (end1 (fun Q2 U hq hU bq => ?_))
      simp only [Act.put, List.setIfInBounds_toArray, List.set_cons_zero, List.set_cons_succ]
      (try simp only [List.filterMap_cons, List.filterMap_nil, List.getElem?_toArray, List.getElem?_cons_zero, List.getElem?_cons_succ])
      have hU1 : Up Z1 U := hU
      have HQ := hide (And.intro (HB.out.1.trans hU1) (And.intro (HB.out.2.up hU1) bq))
      have cq0 := bq.cell 0 rfl
      have cq1 := bq.cell 1 rfl
      have lcq := bq.lt
      have fcq0 := bq.frozen 0
      have fcq1 := bq.frozen 1
      clear hU hU1 bq cw0 cw1 ct0 cs0 cs1 cs2 cs3 cp0 cp1 HB
      go_wp2_with fail
      refine forgetW (fun Y => Up W6 Y ∧ Box Y Q1 #[.int .i64 (p1), .int .i64 (p2)] 26 ∧ Box Y Q2 #[.int .i64 (p1), .int .i64 (p2)] 26) ⟨?_, ?_, ?_⟩ ?_
      · exact (by repeat (first | with_reducible exact HQ.out.1 | with_reducible exact Up.refl _ | with_reducible apply Up.ext | with_reducible apply Up.alloc | with_reducible apply Up.drew | (with_reducible refine Up.setCell ?_ (by simp only; omega) _)))
      · exact (by repeat (first | with_reducible exact HQ.out.2.1 | with_reducible apply Box.ext | with_reducible apply Box.alloc | with_reducible apply Box.drew | (with_reducible refine Box.other ?_ (by omega) _ _)))
      · exact (by (repeat (first | with_reducible apply Box.ext | with_reducible apply Box.alloc | with_reducible apply Box.drew)); exact ((HQ.out.2.2.set 0 (.int .i64 p1)).set 1 (.int .i64 p2)))
      rintro Z2 ⟨hz, b1, b2⟩
      have HB := hide (And.intro hz (And.intro b1 b2))
      clear hz b1 b2 HQ cq0 cq1 lcq fcq0 fcq1 hZ6 hq lg1 lg2 lg3 lg4 lq1
      obtain ⟨cw0, cw1, ct0, cs0, cs1, cs2, cs3, cp0, cp1⟩ := HCS.out _ HB.out.1
      have lg1 : g1 < Z2.heap.size := Nat.lt_of_lt_of_le lG1 HB.out.1.below.size
      have lg2 : g2 < Z2.heap.size := Nat.lt_of_lt_of_le lG2 HB.out.1.below.size
      have lg3 : g3 < Z2.heap.size := Nat.lt_of_lt_of_le lG3 HB.out.1.below.size
      have lg4 : g4 < Z2.heap.size := Nat.lt_of_lt_of_le lG4 HB.out.1.below.size
      ((first | with_reducible refine wp_region_ext2 (by kernel_rfl) (by kernel_rfl) ?_ | refine wp_region_ext (by kernel_rfl) (by kernel_rfl) ?_); (repeat (go_big_quiet_step ((go_at_call 32; with_reducible exact Gives.inRegion (K3.out _ (by first | exact HB.out.1 | exact HB.out.1.ext _)))))); refine wpQuiet_nil ?_; intro _ hw'; obtain ⟨_, hw''⟩ := hw'; subst hw'')
      clear cw0 cw1 ct0 cs0 cs1 cs2 cs3 cp0 cp1 lg1 lg2 lg3 lg4
      go_wp2_with fail
      refine forgetW (fun Y => Up W6 Y ∧ Box Y Q1 #[.int .i64 (p1), .int .i64 (p2)] 26 ∧ Box Y Q2 #[.int .i64 (p1), .int .i64 (p2)] 26) ⟨?_, ?_, ?_⟩ ?_
      · exact (by repeat (first | with_reducible exact HB.out.1 | with_reducible exact Up.refl _ | with_reducible apply Up.ext | with_reducible apply Up.alloc | with_reducible apply Up.drew | (with_reducible refine Up.setCell ?_ (by simp only; omega) _)))
      · exact (by repeat (first | with_reducible exact HB.out.2.1 | with_reducible apply Box.ext | with_reducible apply Box.alloc | with_reducible apply Box.drew | (with_reducible refine Box.other ?_ (by omega) _ _)))
      · exact (by repeat (first | with_reducible exact HB.out.2.2 | with_reducible apply Box.ext | with_reducible apply Box.alloc | with_reducible apply Box.drew | (with_reducible refine Box.other ?_ (by omega) _ _)))
      clear HB
      rintro Z3 ⟨hz, b1, b2⟩
      have HB := hide (And.intro hz (And.intro b1 b2))
      clear hz b1 b2
      obtain ⟨cw0, cw1, ct0, cs0, cs1, cs2, cs3, cp0, cp1⟩ := HCS.out _ HB.out.1
      have lg1 : g1 < Z3.heap.size := Nat.lt_of_lt_of_le lG1 HB.out.1.below.size
      have lg2 : g2 < Z3.heap.size := Nat.lt_of_lt_of_le lG2 HB.out.1.below.size
      have lg3 : g3 < Z3.heap.size := Nat.lt_of_lt_of_le lG3 HB.out.1.below.size
      have lg4 : g4 < Z3.heap.size := Nat.lt_of_lt_of_le lG4 HB.out.1.below.size
      ((first | with_reducible refine wp_region_ext2 (by kernel_rfl) (by kernel_rfl) ?_ | refine wp_region_ext (by kernel_rfl) (by kernel_rfl) ?_); (repeat (go_big_quiet_step ((go_at_call 33; with_reducible exact Gives.inRegion (K4.out _ (by first | exact HB.out.1 | exact HB.out.1.ext _)))))); refine wpQuiet_nil ?_; intro _ hw'; obtain ⟨_, hw''⟩ := hw'; subst hw'')
      clear cw0 cw1 ct0 cs0 cs1 cs2 cs3 cp0 cp1 lg1 lg2 lg3 lg4
      have e1_0 := HB.out.2.1.cell 0 rfl
      have e1_1 := HB.out.2.1.cell 1 rfl
      have le1_ := HB.out.2.1.lt
      have e2_0 := HB.out.2.2.cell 0 rfl
      have e2_1 := HB.out.2.2.cell 1 rfl
      have le2_ := HB.out.2.2.lt
      go_wp2
      go_roundw
      case rel => exact ⟨k + 1, by go_num, by omega, hide (by repeat (first | with_reducible exact HB.out.1 | with_reducible exact Up.refl _ | apply Up.ext | apply Up.alloc | apply Up.drew | (refine Up.setCell ?_ (by simp [World.setCell]; try omega) _)))⟩
      case measure => simp [intOf]; omega
    · have hkb : decide ((k : Int) < 2) = false := by simp; omega
      have hkn : decide (k < 2) = false := by simp; omega
      go_wp2_with (first | (go_at_call 8; refine (awake_any _).mono ?_; intro _) | fail)
      go_ret
      exact ⟨rfl, (by repeat (first | with_reducible exact HU6.out.trans hw.out | with_reducible exact Up.refl _ | apply Up.ext | apply Up.alloc | apply Up.drew | (refine Up.setCell ?_ (by simp [World.setCell]; try omega) _)))⟩

set_option maxRecDepth 100000 in
theorem frules_lifted (os : Os) (started : os.Started) (H : Type) (enc : TypeId × Value → H) :
    ReturnsInHanded {} Tryz.checked os 6 .any (Rows.forceRulesSpec.pre6 enc Tryz.prog Tryz.f6 Rows.forceRulesRow.domain false) (Rows.forceRulesSpec.post enc Tryz.prog Tryz.f6 false true false false) := by
  refine returnsInHanded_of_change (C := Tryz.checked) knob_own started (by kernel_rfl) Tryz.func6
    (ChangeSpec.witness6 (enc := enc) (C := Tryz.checked) false ⟨#[], #[.agg #[.slice none 0 0, .int .i64 0], .int .i64 0, .agg #[.int .i64 (0), .int .i64 (0), .int .i64 (0), .int .i64 (0)], .agg #[.int .i64 0, .int .i64 0], .slice none 0 0], []⟩ 8 (by kernel_rfl) (by kernel_rfl) (by kernel_rfl) (by kernel_rfl)) ?_
  intro W base args ds gs before hval0 hW _ _
  have hval : ∀ (j : Nat) t v, Tryz.f6.params[j]? = some t → args[j]? = some v → Value.okWide Tryz.prog W .any base t v := hval0
  have hW' := hW
  obtain ⟨p, q, hA0, hV, rfl, _, _⟩ := hW
  have hA : DataW.TrodAll enc Tryz.prog W 0 (fun _ => true) true Tryz.f6.params.toList args.toList ds p := hA0
  rw [Tryz.params6] at hA hval
  obtain ⟨v0, vs0, d0, ds0, p0, q0, hargs, rfl, rfl, h0, r0⟩ := trodAll_cons hA
  obtain ⟨v1, vs1, d1, ds1, p1, q1, rfl, rfl, rfl, h1, r1⟩ := trodAll_cons r0
  obtain ⟨v2, vs2, d2, ds2, p2, q2, rfl, rfl, rfl, h2, r2⟩ := trodAll_cons r1
  obtain ⟨v3, vs3, d3, ds3, p3, q3, rfl, rfl, rfl, h3, r3⟩ := trodAll_cons r2
  obtain ⟨v4, vs4, d4, ds4, p4, q4, rfl, rfl, rfl, h4, r4⟩ := trodAll_cons r3
  obtain ⟨rfl, rfl, rfl⟩ := trodAll_nil r4
  obtain rfl : args = #[v0, v1, v2, v3, v4] := by cases args; simp_all
  obtain ⟨rfl, rfl⟩ := trodVars_none hV
  have hlt0 : ∀ x ∈ p0, x.block < W.heap.size := fun x hx => hW'.lt x (by simp [hx])
  have hv0 := hval 0 24 v0 rfl rfl
  have shut0 := shut_stay (by kernel_rfl) (by kernel_rfl) h0 hlt0
  obtain ⟨bs0, home0, hw0⟩ := open_world hv0 h0
  have hlt1 : ∀ x ∈ p1, x.block < W.heap.size := fun x hx => hW'.lt x (by simp [hx])
  have hv1 := hval 1 2 v1 rfl rfl
  have shut1 := shut_stay (by kernel_rfl) (by kernel_rfl) h1 hlt1
  obtain ⟨a1, rfl, _, _, w1⟩ := open_int Tryz.underlying2 hv1 h1
  have hlt2 : ∀ x ∈ p2, x.block < W.heap.size := fun x hx => hW'.lt x (by simp [hx])
  have hv2 := hval 2 65 v2 rfl rfl
  have shut2 := shut_stay (by kernel_rfl) (by kernel_rfl) h2 hlt2
  obtain ⟨a2, b2, c2, e2, rfl, ia2, ib2, ic2, ie2⟩ := open_state hv2 h2
  have hlt3 : ∀ x ∈ p3, x.block < W.heap.size := fun x hx => hW'.lt x (by simp [hx])
  have hv3 := hval 3 55 v3 rfl rfl
  have shut3 := shut_stay (by kernel_rfl) (by kernel_rfl) h3 hlt3
  obtain ⟨x3, y3, rfl, _, _, wx3, wy3⟩ := open_vec hv3 h3
  have hlt4 : ∀ x ∈ p4, x.block < W.heap.size := fun x hx => hW'.lt x (by simp [hx])
  have hv4 := hval 4 31 v4 rfl rfl
  have shut4 := shut_stay (by kernel_rfl) (by kernel_rfl) h4 hlt4
  obtain ⟨hn4, _⟩ := open_nums hv4 h4 hlt4
  clear hA0 hval0
  simp only [List.append_nil] at hW'
  refine (frules_law v0 v4 hw0 a1 a2 b2 c2 e2 x3 y3 ⟨ia2, ib2, ic2, ie2⟩ hn4).mono fun px => ?_
  exact ⟨_, rfl, post_of_below (pa := (p0 ++ (p1 ++ (p2 ++ (p3 ++ (p4 ++ [])))))) (pv := []) hW' (fun _ _ _ => (trodAll_cons_mk (shut_bool Tryz.underlying4 _) trodAll_mk0)) (fun sp hsp => (trodAll_cons_mk (shut0 _ sp (Up.below ⟨px, rfl⟩) (fun x hx => hsp x (by simp [hx]))) (trodAll_cons_mk (shut1 _ sp (Up.below ⟨px, rfl⟩) (fun x hx => hsp x (by simp [hx]))) (trodAll_cons_mk (shut2 _ sp (Up.below ⟨px, rfl⟩) (fun x hx => hsp x (by simp [hx]))) (trodAll_cons_mk (shut3 _ sp (Up.below ⟨px, rfl⟩) (fun x hx => hsp x (by simp [hx]))) (trodAll_cons_mk (shut4 _ sp (Up.below ⟨px, rfl⟩) (fun x hx => hsp x (by simp [hx]))) trodAll_mk0)))))) (fun _ _ => rfl) (by simp)
    (Up.below ⟨px, rfl⟩) (ok_one (by kernel_rfl) rfl (okWide_bool_mk Tryz.underlying4 _))⟩

theorem frules_holds : Rows.ForceRulesSaid :=
  OpenClaim.holds_of_wide 6 Tryz.f6 rfl rfl rfl rfl rfl rfl rfl ⟨rfl, rfl, rfl, rfl, rfl⟩ rfl rfl rfl rfl rfl (by kernel_rfl) Tryz.func6 (by kernel_rfl)
    (of_decide_eq_true (by kernel_rfl)) (by unfold Func.isWrapper; rw [if_neg (by decide +kernel)]; exact ⟨rfl, rfl⟩)
    (fun os started H enc _ => frules_lifted os started H enc)
#print axioms frules_holds
end Go.Proofs.YtbcgdhldkanecaaGreat
