/- ForcePulls returns true for every input: the pull of one body, and which drifts are valid, are what the reference says, and the world is not changed. No conditions. -/
import Derived.Test.YtbcgdhldkanecaaGreatPostn
import Derived.Test.YtbcgdhldkanecaaGreatPostb
import Derived.Test.YtbcgdhldkanecaaGreatShown
import Derived.Test.YtbcgdhldkanecaaGreatMade
import Derived.Test.YtbcgdhldkanecaaGreatFloatE
import Derived.Test.YtbcgdhldkanecaaGreatBigS
import Derived.Test.YtbcgdhldkanecaaGreatSame
import Derived.Test.YtbcgdhldkanecaaGreatOwnRaw
import Derived.Test.YtbcgdhldkanecaaGreatFRefE
import Derived.Test.YtbcgdhldkanecaaGreatRaw
import Derived.JoinedOf
import Derived.JoinedAt
import Derived.ChangeSame
import Derived.OpenShut
namespace Go.Proofs.YtbcgdhldkanecaaGreat
set_option linter.unusedVariables false
set_option linter.unusedSimpArgs false
open Go.RowKit Go.ChangeShapes Go.WideShapes Go.ChangeAt Go.Joins Go.Shelf

/-- what lies at place k of the slices -/
theorem fpulls_cells {W : World} {g1 g2 g3 g4 n c n2 c2 : Nat} {a a2 : Option Addr} {bs bs2 : List Bod} {home home2 bi bi2 t t2 x0 x1 y0 y1 u0 u1 z0 z1 : Int} (hb : Bods (fun _ => True) W (.slice a n c) bs) (hb2 : Bods (fun _ => True) W (.slice a2 n2 c2) bs2) (hh : I64 home) (hh2 : I64 home2) (hs : bs.length ≤ 10 ∧ ∀ b ∈ bs, b.track.length ≤ 4097) (hs2 : bs2.length ≤ 10 ∧ ∀ b ∈ bs2, b.track.length ≤ 4097)
    (bg1 : Box W g1 #[.slice a n c, .int .i64 home, .slice a2 n2 c2, .int .i64 home2] 24) (bg2 : Box W g2 #[.int .i64 (bi), .int .i64 (bi2)] 3) (bg3 : Box W g3 #[.int .i64 (t), .int .i64 (t2)] 2) (bg4 : Box W g4 #[.int .i64 (x0), .int .i64 (x1), .int .i64 (y0), .int .i64 (y1), .int .i64 (u0), .int .i64 (u1), .int .i64 (z0), .int .i64 (z1)] 30) :
    ∀ k, k < 2 → ∃ (ra : Option Addr) (rn rc : Nat) (rbs : List Bod) (rh ri rt rx0 rx1 ry0 ry1 : Int), (∀ W', Up W W' → Bods (fun _ => True) W' (.slice ra rn rc) rbs) ∧ I64 rh ∧ (rbs.length ≤ 10 ∧ ∀ b ∈ rbs, b.track.length ≤ 4097) ∧ ∀ W', Up W W' → W'.cell? ⟨g1, k * 2, none⟩ = some (.slice ra rn rc) ∧ W'.cell? ⟨g1, k * 2 + 1, none⟩ = some (.int .i64 rh) ∧ W'.cell? ⟨g2, k, none⟩ = some (.int .i64 ri) ∧ W'.cell? ⟨g3, k, none⟩ = some (.int .i64 rt) ∧ W'.cell? ⟨g4, k * 4, none⟩ = some (.int .i64 rx0) ∧ W'.cell? ⟨g4, k * 4 + 1, none⟩ = some (.int .i64 rx1) ∧ W'.cell? ⟨g4, k * 4 + 2, none⟩ = some (.int .i64 ry0) ∧ W'.cell? ⟨g4, k * 4 + 3, none⟩ = some (.int .i64 ry1) := by
  intro k hk
  have up : ∀ {b j : Nat} {v : Value} {W' : World}, b < W.heap.size → W.cell? ⟨b, j, none⟩ = some v → Up W W' → W'.cell? ⟨b, j, none⟩ = some v := fun {b j v W'} hb hv hu => (World.cell?_of_block (a := ⟨b, j, none⟩) (hu.below.block b hb)).trans hv
  match k, hk with
  | 0, _ => exact ⟨a, n, c, bs, home, bi, t, x0, x1, y0, y1, fun W' hu => hb.keeps (hu.keeps _), hh, hs, fun W' hu => ⟨up bg1.lt (bg1.cell 0 rfl) hu, up bg1.lt (bg1.cell 1 rfl) hu, up bg2.lt (bg2.cell 0 rfl) hu, up bg3.lt (bg3.cell 0 rfl) hu, up bg4.lt (bg4.cell 0 rfl) hu, up bg4.lt (bg4.cell 1 rfl) hu, up bg4.lt (bg4.cell 2 rfl) hu, up bg4.lt (bg4.cell 3 rfl) hu⟩⟩
  | 1, _ => exact ⟨a2, n2, c2, bs2, home2, bi2, t2, u0, u1, z0, z1, fun W' hu => hb2.keeps (hu.keeps _), hh2, hs2, fun W' hu => ⟨up bg1.lt (bg1.cell 2 rfl) hu, up bg1.lt (bg1.cell 3 rfl) hu, up bg2.lt (bg2.cell 1 rfl) hu, up bg3.lt (bg3.cell 1 rfl) hu, up bg4.lt (bg4.cell 4 rfl) hu, up bg4.lt (bg4.cell 5 rfl) hu, up bg4.lt (bg4.cell 6 rfl) hu, up bg4.lt (bg4.cell 7 rfl) hu⟩⟩
/-- what a round calls, with letters for the values -/
theorem fpulls_calls {W : World} (ra : Option Addr) (rn rc : Nat) (rbs : List Bod) (rh ri rt rx0 rx1 ry0 ry1 : Int) (hb : ∀ W', Up W W' → Bods (fun _ => True) W' (.slice ra rn rc) rbs) (hh : I64 rh) :
    ∃ p1 p2 p3 p4 pe : Int, (∀ (W' : World) (oa : Option Addr) (oc : Nat), Bods (fun _ => True) W' (.slice oa rn oc) rbs → Gives Tryz.prog 15 #[.agg #[.slice oa rn oc, .int .i64 rh], .int .i64 ri, .int .i64 rt, .agg #[.int .i64 (rx0), .int .i64 (rx1), .int .i64 (ry0), .int .i64 (ry1)]] W' (.tuple #[.agg #[.int .i64 (p1), .int .i64 (p2), .int .i64 (p3), .int .i64 (p4)], .int .i64 pe])) ∧
      (∀ W', Up W W' → Gives Tryz.prog 16 #[.agg #[.slice ra rn rc, .int .i64 rh], .int .i64 ri, .int .i64 rt, .agg #[.int .i64 (rx0), .int .i64 (rx1), .int .i64 (ry0), .int .i64 (ry1)]] W' (.tuple #[.agg #[.int .i64 (p1), .int .i64 (p2), .int .i64 (p3), .int .i64 (p4)], .int .i64 pe])) := by
  obtain ⟨⟨⟨p1, p2, p3, p4⟩, pe⟩, hp⟩ : ∃ R, oneV rbs rh ri rt (rx0, rx1, ry0, ry1) = R := ⟨_, rfl⟩
  refine ⟨p1, p2, p3, p4, pe, fun W' oa oc ho => ?_, fun W' hu => ?_⟩
  · have := fOne_any ho hh ri rt (rx0, rx1, ry0, ry1)
    rw [hp] at this
    exact this
  · have := g_One (hb W' hu) hh ri rt (rx0, rx1, ry0, ry1)
    rw [hp] at this
    exact this

set_option maxRecDepth 100000 in
set_option maxHeartbeats 100000000 in
theorem fpulls_law (v0 v5 : Value) {w : World} {bs0 : List Bod} {home0 : Int} (hW0 : WorldIn (fun b => b < w.heap.size) w v0 bs0 home0) (l1 l2 h1 h2 g bi t x0 x1 y0 y1 : Int) (hN : Nums w v5) :
    Gives Tryz.prog 3 #[v0, .agg #[.int .i64 (l1), .int .i64 (l2), .int .i64 (h1), .int .i64 (h2), .int .i64 (g)], .int .i64 bi, .int .i64 t, .agg #[.int .i64 (x0), .int .i64 (x1), .int .i64 (y0), .int .i64 (y1)], v5] w (.bool true) := by
  obtain ⟨sa, sn, sc, rfl⟩ := hN.form
  obtain ⟨_, rfl, ⟨a0, c0, rfl, hl0⟩, hh0⟩ := hW0
  have hl : Bods (fun b => b < w.heap.size) w (.slice a0 bs0.length c0) bs0 := ⟨a0, c0, rfl, hl0⟩
  clear hl0
  have HL := hide (And.intro hl (And.intro hh0 hN))
  clear hl hh0 hN
  obtain ⟨H, hH⟩ : ∃ H, w.heap.size = H := ⟨_, rfl⟩
  (unfold Gives; go_enter Tryz.func3, Tryz.ntmps3)
  go_wp2_with fail
  go_at_call 7
  try rw [hH]
  refine forgetE (fun Y => Up w Y ∧ Box Y H #[.slice a0 bs0.length c0, .int .i64 home0] 24 ∧ Box Y (H + 1) #[.int .i64 (l1), .int .i64 (l2), .int .i64 (h1), .int .i64 (h2), .int .i64 (g)] 28 ∧ Box Y (H + 1 + 1) #[.int .i64 (x0), .int .i64 (x1), .int .i64 (y0), .int .i64 (y1)] 30) ⟨(by repeat (first | with_reducible exact Up.refl _ | with_reducible apply Up.plus | apply Up.ext | apply Up.alloc | apply Up.drew | (refine Up.setCell ?_ (by simp; try omega) _))), by rw [← hH]; exact (by repeat (first | exact Box.mk rfl | (refine Box.mk ?_; simp; done) | apply Box.ext | apply Box.drew | apply Box.alloc | apply Box.two1 | (refine Box.other ?_ (by omega) _ _))), by rw [← hH]; exact (by repeat (first | exact Box.mk rfl | (refine Box.mk ?_; simp; done) | apply Box.ext | apply Box.drew | apply Box.alloc | apply Box.two1 | (refine Box.other ?_ (by omega) _ _))), by rw [← hH]; exact (by repeat (first | exact Box.mk rfl | (refine Box.mk ?_; simp; done) | apply Box.ext | apply Box.drew | apply Box.alloc | apply Box.two1 | (refine Box.other ?_ (by omega) _ _)))⟩ ?_
  rintro Y1 ⟨hu1, bbw, bbd, bba⟩
  refine (bigworld_small (home := home0) (HL.out.1.keeps (hu1.keeps _))).mono ?_
  rintro _ _ ⟨bb, p1, rfl, rfl, hsm0⟩
  cases bb
  case true =>
    go_wp2_with (first | (go_at_call 8; refine (awake_any _).mono ?_; intro _) | fail)
    go_ret
    exact ⟨rfl, (by repeat (first | with_reducible exact hu1 | with_reducible exact Up.refl _ | apply Up.ext | apply Up.alloc | apply Up.drew | (refine Up.setCell ?_ (by simp [World.setCell]; try omega) _)))⟩
  case false =>
  have HSM := hide (hsm0 rfl)
  clear hsm0
  go_wp2_with fail
  go_at_call 9
  refine (newring_any _ _ _ _).mono ?_
  rintro _ _ ⟨rfl, rfl⟩
  go_wp2_with fail
  go_at_call 10
  obtain ⟨B, hB⟩ : ∃ T, Y1.heap.size + p1.os.size = T := ⟨_, rfl⟩
  try simp only [ext_size]
  rw [hB]
  refine forgetE (fun Y => Up w Y ∧ Y.heap.size = B + 1 ∧ Box Y B #[.slice sa sn sc, .int .i64 0] 78 ∧ Box Y H #[.slice a0 bs0.length c0, .int .i64 home0] 24 ∧ Box Y (H + 1) #[.int .i64 (l1), .int .i64 (l2), .int .i64 (h1), .int .i64 (h2), .int .i64 (g)] 28 ∧ Box Y (H + 1 + 1) #[.int .i64 (x0), .int .i64 (x1), .int .i64 (y0), .int .i64 (y1)] 30) ⟨(by repeat (first | with_reducible exact hu1 | with_reducible exact Up.refl _ | apply Up.ext | apply Up.alloc | apply Up.drew | (refine Up.setCell ?_ (by simp [World.setCell]; try omega) _))), by simp; omega, Box.mk (by simp; omega), (by repeat (first | with_reducible exact bbw | apply Box.ext | apply Box.drew | apply Box.alloc | (refine Box.other ?_ (by simp; try omega) _ _))), (by repeat (first | with_reducible exact bbd | apply Box.ext | apply Box.drew | apply Box.alloc | (refine Box.other ?_ (by simp; try omega) _ _))), (by repeat (first | with_reducible exact bba | apply Box.ext | apply Box.drew | apply Box.alloc | (refine Box.other ?_ (by simp; try omega) _ _)))⟩ ?_
  rintro W0 ⟨hu0, hl0, hb0, hbw, hbd, hba⟩
  have hBl : w.heap.size ≤ B := by have := hu1.below.size; omega
  have hHB : H + 1 + 1 < B := by have := bba.lt; omega
  clear hB hu1 bbw bbd bba
  refine (skyof_at HL.out.2.2 hBl hu0 hb0 (RingAt.start (n := 0) hb0 (by omega) (by omega)) (by omega)).mono ?_
  rintro _ V1 ⟨_, s, rfl, ⟨_, vs, vc, rfl, hbod, hhome, _, _⟩, hsm, hR1, hg1⟩
  obtain ⟨b1, c1, rfl, hbl⟩ := hbod
  have hbod : Bods (fun b => W0.heap.size ≤ b) V1 (.slice b1 s.bodies.length c1) s.bodies := ⟨b1, c1, rfl, hbl⟩
  clear hbl
  have hraw : Bods (fun b => b < w.heap.size) V1 (.slice a0 bs0.length c0) bs0 := (HL.out.1.keeps (hu0.keeps _)).keeps ((Keeps.refl _ W0).turn hg1 (by intro b e; cases e; omega))
  have hlV1 := hR1.size
  have qbw := hR1.other hbw (by omega)
  have qbd := hR1.other hbd (by omega)
  have qba := hR1.other hba (by omega)
  obtain ⟨N, hNN⟩ : ∃ N, V1.heap.size = N := ⟨_, rfl⟩
  have hBN : B < N := by omega
  have hHome := hide (And.intro hhome hsm)
  clear hg1 hhome hsm hbw hbd hba
  go_wp2_with fail
  try rw [hNN]
  refine forgetW (fun Y => RingAt W0 B 60 Y ∧ Box Y N #[.slice b1 s.bodies.length c1, .int .i64 s.home] 24 ∧ Box Y H #[.slice a0 bs0.length c0, .int .i64 home0] 24 ∧ Box Y (H + 1) #[.int .i64 (l1), .int .i64 (l2), .int .i64 (h1), .int .i64 (h2), .int .i64 (g)] 28 ∧ Box Y (H + 1 + 1) #[.int .i64 (x0), .int .i64 (x1), .int .i64 (y0), .int .i64 (y1)] 30 ∧ Bods (fun b => b < w.heap.size) Y (.slice a0 bs0.length c0) bs0 ∧ Bods (fun b => W0.heap.size ≤ b) Y (.slice b1 s.bodies.length c1) s.bodies) ⟨(hR1.alloc _).mono (by omega), by rw [← hNN]; exact (by repeat (first | exact Box.mk rfl | (refine Box.mk ?_; simp; done) | apply Box.ext | apply Box.drew | apply Box.alloc | apply Box.two1 | (refine Box.other ?_ (by omega) _ _))), (by repeat (first | with_reducible exact qbw | apply Box.ext | apply Box.drew | apply Box.alloc | (refine Box.other ?_ (by simp; try omega) _ _))), (by repeat (first | with_reducible exact qbd | apply Box.ext | apply Box.drew | apply Box.alloc | (refine Box.other ?_ (by simp; try omega) _ _))), (by repeat (first | with_reducible exact qba | apply Box.ext | apply Box.drew | apply Box.alloc | (refine Box.other ?_ (by simp; try omega) _ _))), hraw.keeps (Up.keeps (by repeat (first | with_reducible exact Up.refl _ | with_reducible apply Up.plus | apply Up.ext | apply Up.alloc | apply Up.drew | (refine Up.setCell ?_ (by simp; try omega) _))) _), hbod.keeps (Up.keeps (by repeat (first | with_reducible exact Up.refl _ | with_reducible apply Up.plus | apply Up.ext | apply Up.alloc | apply Up.drew | (refine Up.setCell ?_ (by simp; try omega) _))) _)⟩ ?_
  rintro W5 ⟨hR5, bn, jbw, jbd, jba, hraw, hbod⟩
  clear hNN hR1 qbw qbd qba
  have HBD0 := hide (And.intro jbd hHB)
  obtain ⟨tr, tr0, tr1, hbr⟩ := hR5.box hb0
  have hu5 := hR5.up hu0 hBl
  have hNB : N ≠ B := by omega
  have hS := hide (And.intro hbr (And.intro hu5 (And.intro hBl (And.intro hb0 (And.intro hu0 (And.intro hraw hbod))))))
  have cn0 := bn.cell 0 rfl
  have cn1 := bn.cell 1 rfl
  have lcn := bn.lt
  have cbw0 := jbw.cell 0 rfl
  have cbw1 := jbw.cell 1 rfl
  have lcbw := jbw.lt
  have cbd0 := jbd.cell 0 rfl
  have cbd1 := jbd.cell 1 rfl
  have cbd2 := jbd.cell 2 rfl
  have cbd3 := jbd.cell 3 rfl
  have cbd4 := jbd.cell 4 rfl
  have lcbd := jbd.lt
  have cba0 := jba.cell 0 rfl
  have cba1 := jba.cell 1 rfl
  have cba2 := jba.cell 2 rfl
  have cba3 := jba.cell 3 rfl
  have lcba := jba.lt
  have lBW : B < W5.heap.size := hbr.lt
  have HNUM := hHome.out.2.num
  have KN := hide (next_r (m := s.bodies.length) HL.out.2.2 hBl (by omega) (by omega))
  have KR := hide (range_r (lo := 0) (hi := 50) HL.out.2.2 hBl (by omega) (by omega) (by omega))
  have KA := hide (areaof_r HL.out.2.2 hBl (most := 2000) (wide := 80) (by omega) (by omega) (by omega) (by omega))
  clear HNUM
  clear hraw hbod hb0 hu0 hR5 hu5 hbr bn jbw jbd jba
  refine wp_region_floatV (al := [⟨2, 35, 2, 24, none⟩, ⟨9, 42, 2, 3, none⟩, ⟨13, 46, 2, 2, none⟩, ⟨17, 50, 2, 30, none⟩, ⟨18, 15, 2, 24, some 2⟩, ⟨19, 16, 2, 3, some 9⟩, ⟨20, 17, 2, 2, some 13⟩, ⟨21, 18, 2, 30, some 17⟩]) (mv := fun k => k == 8 || k == 12 || k == 16) [] [0, 1, 2, 3, 4, 5, 6, 7, 10, 11, 14, 15, 8, 9, 12, 13, 16, 17] (by kernel_rfl) (by kernel_rfl) (by kernel_rfl) (cls_ring _ B tr) (ringAt_drew hS.out.1 tr0 (Int.le_refl _)) (Nat.le_refl _) ?_
  simp only [withOps, List.filterMap_cons, List.filterMap_nil, List.getElem?_toArray, List.getElem?_cons_zero, List.getElem?_cons_succ, Option.map_some]
  refine walkV_seg 100 2 (by kernel_rfl) ?_
  simp only [List.take_succ_cons, List.take_zero, List.drop_succ_cons, List.drop_zero]
  (repeat (first | (apply walkF_pure (base := ringBase _ _) rfl rfl rfl (by kernel_rfl); · (rintro ⟨tx, px⟩ K hK; unfold ringBase; dsimp only; go_big_quiet_op; first | exact hK | (apply Exists.intro; refine ⟨fun _ => ?_, ?_⟩; (· (fail)); exact hK))) | (apply walkF_skip rfl; simp only [Act.put, List.setIfInBounds_toArray, List.set_cons_zero, List.set_cons_succ])))
  refine walkF_nil ?_
  refine walkV_mk (by kernel_rfl) (makesV_one (⟨2, 35, 2, 24, none⟩ : Mk) (#[.slice a0 bs0.length c0, .int .i64 home0, .slice b1 s.bodies.length c1, .int .i64 s.home]) (by simp) rfl (by decide) (runs_slice rfl rfl rfl rfl rfl (by decide) 2 (.agg #[.slice none 0 0, .int .i64 0]) Tryz.underlying41 (by kernel_rfl) (by decide) (by simp [go_sem, Instr.fill]))) ?_
  refine walkV_seg 100 10 (by kernel_rfl) ?_
  simp only [List.take_succ_cons, List.take_zero, List.drop_succ_cons, List.drop_zero]
  (repeat (first | (apply walkF_pure (base := ringBase _ _) rfl rfl rfl (by kernel_rfl); · (rintro ⟨tx, px⟩ K hK; unfold ringBase; dsimp only; go_big_quiet_op; first | exact hK | (apply Exists.intro; refine ⟨fun _ => ?_, ?_⟩; (· (fail)); exact hK))) | (apply walkF_skip rfl; simp only [Act.put, List.setIfInBounds_toArray, List.set_cons_zero, List.set_cons_succ])))
  refine walkF_call _ _ (ring_call KN.out hS.out.2.1 hS.out.1 hS.out.2.2.1 lBW (by omega)) (fun _ _ => cls_ring _ _ _) rfl rfl (fun _ => by simp [go_sem]) ?_
  rintro _ ⟨bi2, _, _, rfl⟩
  simp only [Act.put, List.setIfInBounds_toArray, List.set_cons_zero, List.set_cons_succ]
  refine walkF_nil ?_
  refine walkV_mk (by kernel_rfl) (makesV_one (⟨9, 42, 2, 3, none⟩ : Mk) (#[.int .i64 (bi), .int .i64 (bi2)]) (by simp) rfl (by decide) (runs_slice rfl rfl rfl rfl rfl (by decide) 1 (.int .i64 0) Tryz.underlying31 (by kernel_rfl) (by decide) (by simp [go_sem, Instr.fill]))) ?_
  refine walkV_seg 100 1 (by kernel_rfl) ?_
  simp only [List.take_succ_cons, List.take_zero, List.drop_succ_cons, List.drop_zero]
  refine walkF_call _ _ (ring_call KR.out hS.out.2.1 hS.out.1 hS.out.2.2.1 lBW (by omega)) (fun _ _ => cls_ring _ _ _) rfl rfl (fun _ => by simp [go_sem]) ?_
  rintro _ ⟨t2, _, _, rfl⟩
  simp only [Act.put, List.setIfInBounds_toArray, List.set_cons_zero, List.set_cons_succ]
  refine walkF_nil ?_
  refine walkV_mk (by kernel_rfl) (makesV_one (⟨13, 46, 2, 2, none⟩ : Mk) (#[.int .i64 (t), .int .i64 (t2)]) (by simp) rfl (by decide) (runs_slice rfl rfl rfl rfl rfl (by decide) 1 (.int .i64 0) Tryz.underlying44 (by kernel_rfl) (by decide) (by simp [go_sem, Instr.fill]))) ?_
  refine walkV_seg 100 1 (by kernel_rfl) ?_
  simp only [List.take_succ_cons, List.take_zero, List.drop_succ_cons, List.drop_zero]
  refine walkF_call _ _ (ring_call KA.out hS.out.2.1 hS.out.1 hS.out.2.2.1 lBW (by omega)) (fun _ _ => cls_ring _ _ _) rfl rfl (fun _ => by simp [go_sem]) ?_
  rintro _ ⟨u0, u1, z0, z1, _, _, rfl⟩
  simp only [Act.put, List.setIfInBounds_toArray, List.set_cons_zero, List.set_cons_succ]
  refine walkF_nil ?_
  refine walkV_mk (by kernel_rfl) (makesV_one (⟨17, 50, 2, 30, none⟩ : Mk) (#[.int .i64 (x0), .int .i64 (x1), .int .i64 (y0), .int .i64 (y1), .int .i64 (u0), .int .i64 (u1), .int .i64 (z0), .int .i64 (z1)]) (by simp) rfl (by decide) (runs_slice rfl rfl rfl rfl rfl (by decide) 4 (.agg #[.int .i64 (0), .int .i64 (0), .int .i64 (0), .int .i64 (0)]) Tryz.underlying46 (by kernel_rfl) (by decide) (by simp [go_sem, Instr.fill]))) ?_
  refine walkV_nil (endV4 (#[.slice a0 bs0.length c0, .int .i64 home0, .slice b1 s.bodies.length c1, .int .i64 s.home]) (#[.int .i64 (bi), .int .i64 (bi2)]) (#[.int .i64 (t), .int .i64 (t2)]) (#[.int .i64 (x0), .int .i64 (x1), .int .i64 (y0), .int .i64 (y1), .int .i64 (u0), .int .i64 (u1), .int .i64 (z0), .int .i64 (z1)]) rfl (by kernel_rfl) (by kernel_rfl) (runs_slice rfl rfl rfl rfl rfl (by decide) 2 (.agg #[.slice none 0 0, .int .i64 0]) Tryz.underlying41 (by kernel_rfl) (by decide) (by simp [go_sem, Instr.fill])) (runs_slice rfl rfl rfl rfl rfl (by decide) 1 (.int .i64 0) Tryz.underlying31 (by kernel_rfl) (by decide) (by simp [go_sem, Instr.fill])) (runs_slice rfl rfl rfl rfl rfl (by decide) 1 (.int .i64 0) Tryz.underlying44 (by kernel_rfl) (by decide) (by simp [go_sem, Instr.fill])) (runs_slice rfl rfl rfl rfl rfl (by decide) 4 (.agg #[.int .i64 (0), .int .i64 (0), .int .i64 (0), .int .i64 (0)]) Tryz.underlying46 (by kernel_rfl) (by decide) (by simp [go_sem, Instr.fill])) (fun g1 g2 g3 g4 W6 hg hne hW6 z1 z2 z3 z4 => ?_))
  simp only [valV, Nat.reduceAdd]
  simp only [Act.put, List.setIfInBounds_toArray, List.set_cons_zero, List.set_cons_succ]
  (try simp only [List.filterMap_cons, List.filterMap_nil, List.getElem?_toArray, List.getElem?_cons_zero, List.getElem?_cons_succ])
  have hu6 := hW6.up hS.out.2.1 hS.out.2.2.1
  have hraw6 := (hS.out.2.2.2.2.2.1.keeps (hW6.keeps (fun b hb e => by have := hS.out.2.2.1; omega))).mono (K' := fun _ => True) (fun _ _ _ => trivial)
  have hbod6 := (hS.out.2.2.2.2.2.2.keeps (hW6.keeps (fun b hb e => by have := hl0; omega))).mono (K' := fun _ => True) (fun _ _ _ => trivial)
  clear cn0 cn1 lcn cbw0 cbw1 lcbw cbd0 cbd1 cbd2 cbd3 cbd4 lcbd cba0 cba1 cba2 cba3 lcba
  have HC := hide (fpulls_cells hraw6 hbod6 HL.out.2.1 hHome.out.1 HSM.out ⟨by have := hHome.out.2.num; omega, fun b hb => by have := (hHome.out.2.bods b hb).2.2.1; omega⟩ z1 z2 z3 z4)
  have lG1 := z1.lt
  have lG2 := z2.lt
  have lG3 := z3.lt
  have lG4 := z4.lt
  have HU6 := hide hu6
  have bd6 := hide (hW6.other HBD0.out.1 (by have := HBD0.out.2; omega))
  clear hraw6 hbod6 hu6 hW6 hg hne z1 z2 z3 z4 hS
  clear KN KR KA hHome HL lBW hl0 hlV1 hBN hNB hHB hBl HBD0 HSM
  go_wp2_with fail
  go_loopw [19] (fun sk wr => ∃ k : Nat, sk = .int .i64 k ∧ k ≤ 2 ∧ Hid (Up W6 wr)) (fun q _ => 2 - (intOf q).toNat)
  case atStart => exact ⟨0, by go_num, by omega, hide (Up.refl _)⟩
  case round =>
    obtain ⟨k, rfl, hk, hw⟩ := hrel
    by_cases hlt : k < 2
    · have hkb : decide ((k : Int) < 2) = true := by simp; omega
      have hkn : decide (k < 2) = true := by simp; omega
      obtain ⟨ra, rn, rc, rbs, rh, ri, rt, rx0, rx1, ry0, ry1, hb, hh, hs, hcs⟩ := HC.out k hlt
      obtain ⟨p1, p2, p3, p4, pe, k1, k2⟩ := fpulls_calls ra rn rc rbs rh ri rt rx0 rx1 ry0 ry1 hb hh
      have K1 := hide k1
      have K2 := hide k2
      have HCS := hide hcs
      have HBS := hide hb
      have HSZ := hide hs
      clear hb hh hs k1 k2 hcs HC
      obtain ⟨cw0, cw1, cb0, ct0, ca0, ca1, ca2, ca3⟩ := HCS.out _ hw.out
      have lg1 : g1 < wr.heap.size := Nat.lt_of_lt_of_le lG1 hw.out.below.size
      have lg2 : g2 < wr.heap.size := Nat.lt_of_lt_of_le lG2 hw.out.below.size
      have lg3 : g3 < wr.heap.size := Nat.lt_of_lt_of_le lG3 hw.out.below.size
      have lg4 : g4 < wr.heap.size := Nat.lt_of_lt_of_le lG4 hw.out.below.size
      go_wp2_with fail
      go_at_call 14
      refine (ownworld_raw (HBS.out _ (by first | exact hw.out | exact hw.out.ext _ | exact hw.out.alloc _)) HSZ.out.1 HSZ.out.2).mono ?_
      rintro _ V ⟨oa, oc, rfl, hV, hown⟩
      clear cw0 cw1 cb0 ct0 ca0 ca1 ca2 ca3 lg1 lg2 lg3 lg4
      obtain ⟨Q0, hQ0⟩ : ∃ q, V.heap.size = q := ⟨_, rfl⟩
      have hQl : wr.heap.size ≤ Q0 := by have := hV.below.size; omega
      have hVw := hide (And.intro (hw.out.trans hV) hown)
      clear hV hown
      go_wp2_with fail
      try rw [hQ0]
      refine forgetW (fun Y => Up W6 Y ∧ Box Y Q0 #[.slice oa rn oc, .int .i64 rh] 24 ∧ Bods (fun _ => True) Y (.slice oa rn oc) rbs) ⟨(by repeat (first | with_reducible exact hVw.out.1 | with_reducible exact Up.refl _ | with_reducible apply Up.ext | with_reducible apply Up.alloc | with_reducible apply Up.drew | (with_reducible refine Up.setCell ?_ (by simp only; omega) _))), by rw [← hQ0]; exact (by repeat (first | exact Box.mk rfl | (refine Box.mk ?_; simp; done) | apply Box.ext | apply Box.drew | apply Box.alloc | apply Box.two1 | (refine Box.other ?_ (by omega) _ _))), hVw.out.2.keeps (Up.keeps (by repeat (first | with_reducible exact Up.refl _ | with_reducible apply Up.plus | apply Up.ext | apply Up.alloc | apply Up.drew | (refine Up.setCell ?_ (by simp; try omega) _))) _)⟩ ?_
      rintro Z0 ⟨hz, b0, hown⟩
      have HB := hide (And.intro hz (And.intro b0 hown))
      clear hz b0 hown hVw hQ0 hQl
      obtain ⟨cw0, cw1, cb0, ct0, ca0, ca1, ca2, ca3⟩ := HCS.out _ HB.out.1
      have lg1 : g1 < Z0.heap.size := Nat.lt_of_lt_of_le lG1 HB.out.1.below.size
      have lg2 : g2 < Z0.heap.size := Nat.lt_of_lt_of_le lG2 HB.out.1.below.size
      have lg3 : g3 < Z0.heap.size := Nat.lt_of_lt_of_le lG3 HB.out.1.below.size
      have lg4 : g4 < Z0.heap.size := Nat.lt_of_lt_of_le lG4 HB.out.1.below.size
      have co0 := HB.out.2.1.cell 0 rfl
      have co1 := HB.out.2.1.cell 1 rfl
      have lco := HB.out.2.1.lt
      have hZ6 := HB.out.1.below.size
      refine wp_region_floatz (al := [(17, 21, #[.int .i64 (0), .int .i64 (0), .int .i64 (0), .int .i64 (0)], 30)]) (mv := fun _ => false) 16 [18, 19] [0, 1, 2, 3, 4, 5, 6, 7, 8, 9, 10, 11, 12, 13, 14, 15, 16] (by kernel_rfl) (by kernel_rfl) rfl (fun _ => rfl) (fun _ _ _ _ h => h) (makes1 ⟨_, rfl, rfl, fun _ => rfl, fun _ _ => by simp [go_sem]⟩) (cls_ext _) (by first | exact drew_in2 _ _ | exact drew_in _) (Nat.le_refl _) ?_
      simp only [withOps, List.filterMap_cons, List.filterMap_nil, List.getElem?_toArray, List.getElem?_cons_zero, List.getElem?_cons_succ, Option.map_some]
      (repeat (first | (apply walkF_pure (base := fun p : Ext => ext _ p) rfl rfl rfl (by kernel_rfl); · (intro px K hK; go_big_quiet_op; first | exact hK | (apply Exists.intro; refine ⟨fun _ => ?_, ?_⟩; (· ((go_at_call 15; with_reducible exact Gives.inFloat (K1.out _ _ _ (HB.out.2.2.keeps (Up.keeps (Up.ext (Up.refl _) _) _)))))); exact hK))) | (apply walkF_skip rfl; simp only [Act.put, List.setIfInBounds_toArray, List.set_cons_zero, List.set_cons_succ])))
      refine walkF_lazy (.int .i64 pe) rfl rfl (fun _ => by simp [go_sem]) ?_
      simp only [Act.put, List.setIfInBounds_toArray, List.set_cons_zero, List.set_cons_succ]
      refine walkF_nil (end1 (fun Q1 U hq hU bq => ?_))
      simp only [Act.put, List.setIfInBounds_toArray, List.set_cons_zero, List.set_cons_succ]
      (try simp only [List.filterMap_cons, List.filterMap_nil, List.getElem?_toArray, List.getElem?_cons_zero, List.getElem?_cons_succ])
      have hU1 : Up Z0 U := hU
      have HQ := hide (And.intro hU1 bq)
      have cq0 := bq.cell 0 rfl
      have cq1 := bq.cell 1 rfl
      have cq2 := bq.cell 2 rfl
      have cq3 := bq.cell 3 rfl
      have lcq := bq.lt
      have fcq0 := bq.frozen 0
      have fcq1 := bq.frozen 1
      have fcq2 := bq.frozen 2
      have fcq3 := bq.frozen 3
      clear hU hU1 bq co0 co1 lco cw0 cw1 cb0 ct0 ca0 ca1 ca2 ca3 lg1 lg2 lg3 lg4
      go_wp2_with fail
      refine forgetW (fun Y => Up Z0 Y ∧ Box Y Q1 #[.int .i64 (p1), .int .i64 (p2), .int .i64 (p3), .int .i64 (p4)] 30) ⟨?_, ?_⟩ ?_
      · exact (by repeat (first | with_reducible exact HQ.out.1 | with_reducible exact Up.refl _ | with_reducible apply Up.ext | with_reducible apply Up.alloc | with_reducible apply Up.drew | (with_reducible refine Up.setCell ?_ (by simp only; omega) _)))
      · exact (by (repeat (first | with_reducible apply Box.ext | with_reducible apply Box.alloc | with_reducible apply Box.drew)); exact ((((HQ.out.2.set 0 (.int .i64 p1)).set 1 (.int .i64 p2)).set 2 (.int .i64 p3)).set 3 (.int .i64 p4)))
      rintro Z1 ⟨hz, b1⟩
      have HB1 := hide (And.intro (HB.out.1.trans hz) (And.intro (HB.out.2.1.up hz) (And.intro (HB.out.2.2.keeps (hz.keeps _)) b1)))
      clear hz b1 HB HQ cq0 cq1 cq2 cq3 lcq fcq0 fcq1 fcq2 fcq3  hZ6 hq
      obtain ⟨cw0, cw1, cb0, ct0, ca0, ca1, ca2, ca3⟩ := HCS.out _ HB1.out.1
      have lg1 : g1 < Z1.heap.size := Nat.lt_of_lt_of_le lG1 HB1.out.1.below.size
      have lg2 : g2 < Z1.heap.size := Nat.lt_of_lt_of_le lG2 HB1.out.1.below.size
      have lg3 : g3 < Z1.heap.size := Nat.lt_of_lt_of_le lG3 HB1.out.1.below.size
      have lg4 : g4 < Z1.heap.size := Nat.lt_of_lt_of_le lG4 HB1.out.1.below.size
      have lq0 := HB1.out.2.1.lt
      have lq1 := HB1.out.2.2.2.lt
      have hZ6 := HB1.out.1.below.size
      refine wp_region_floatz (al := [(20, 23, #[.int .i64 (0), .int .i64 (0), .int .i64 (0), .int .i64 (0)], 30)]) (mv := fun _ => false) 19 [21, 22] [0, 1, 2, 3, 4, 5, 6, 7, 8, 9, 10, 11, 12, 13, 14, 15, 16, 17, 18, 19] (by kernel_rfl) (by kernel_rfl) rfl (fun _ => rfl) (fun _ _ _ _ h => h) (makes1 ⟨_, rfl, rfl, fun _ => rfl, fun _ _ => by simp [go_sem]⟩) (cls_ext _) (by first | exact drew_in2 _ _ | exact drew_in _) (Nat.le_refl _) ?_
      simp only [withOps, List.filterMap_cons, List.filterMap_nil, List.getElem?_toArray, List.getElem?_cons_zero, List.getElem?_cons_succ, Option.map_some]
      (repeat (first | (apply walkF_pure (base := fun p : Ext => ext _ p) rfl rfl rfl (by kernel_rfl); · (intro px K hK; go_big_quiet_op; first | exact hK | (apply Exists.intro; refine ⟨fun _ => ?_, ?_⟩; (· ((go_at_call 16; with_reducible exact Gives.inFloat (K2.out _ (Up.ext HB1.out.1 _))))); exact hK))) | (apply walkF_skip rfl; simp only [Act.put, List.setIfInBounds_toArray, List.set_cons_zero, List.set_cons_succ])))
      refine walkF_lazy (.int .i64 pe) rfl rfl (fun _ => by simp [go_sem]) ?_
      simp only [Act.put, List.setIfInBounds_toArray, List.set_cons_zero, List.set_cons_succ]
      refine walkF_nil (end1 (fun Q3 U hq hU bq => ?_))
      simp only [Act.put, List.setIfInBounds_toArray, List.set_cons_zero, List.set_cons_succ]
      (try simp only [List.filterMap_cons, List.filterMap_nil, List.getElem?_toArray, List.getElem?_cons_zero, List.getElem?_cons_succ])
      have hU1 : Up Z1 U := hU
      have HQ := hide (And.intro hU1 bq)
      have cq0 := bq.cell 0 rfl
      have cq1 := bq.cell 1 rfl
      have cq2 := bq.cell 2 rfl
      have cq3 := bq.cell 3 rfl
      have lcq := bq.lt
      have fcq0 := bq.frozen 0
      have fcq1 := bq.frozen 1
      have fcq2 := bq.frozen 2
      have fcq3 := bq.frozen 3
      clear hU hU1 bq cw0 cw1 cb0 ct0 ca0 ca1 ca2 ca3 lg1 lg2 lg3 lg4
      go_wp2_with fail
      refine forgetW (fun Y => Up Z1 Y ∧ Box Y Q3 #[.int .i64 (p1), .int .i64 (p2), .int .i64 (p3), .int .i64 (p4)] 30) ⟨?_, ?_⟩ ?_
      · exact (by repeat (first | with_reducible exact HQ.out.1 | with_reducible exact Up.refl _ | with_reducible apply Up.ext | with_reducible apply Up.alloc | with_reducible apply Up.drew | (with_reducible refine Up.setCell ?_ (by simp only; omega) _)))
      · exact (by (repeat (first | with_reducible apply Box.ext | with_reducible apply Box.alloc | with_reducible apply Box.drew)); exact ((((HQ.out.2.set 0 (.int .i64 p1)).set 1 (.int .i64 p2)).set 2 (.int .i64 p3)).set 3 (.int .i64 p4)))
      rintro Z2 ⟨hz, b3⟩
      have HB2 := hide (And.intro (HB1.out.1.trans hz) (And.intro (HB1.out.2.1.up hz) (And.intro (HB1.out.2.2.1.keeps (hz.keeps _)) (And.intro (HB1.out.2.2.2.up hz) b3))))
      clear hz b3 HB1 HQ cq0 cq1 cq2 cq3 lcq fcq0 fcq1 fcq2 fcq3 hZ6 hq lq0 lq1
      obtain ⟨cw0, cw1, cb0, ct0, ca0, ca1, ca2, ca3⟩ := HCS.out _ HB2.out.1
      have lg1 : g1 < Z2.heap.size := Nat.lt_of_lt_of_le lG1 HB2.out.1.below.size
      have lg2 : g2 < Z2.heap.size := Nat.lt_of_lt_of_le lG2 HB2.out.1.below.size
      have lg3 : g3 < Z2.heap.size := Nat.lt_of_lt_of_le lG3 HB2.out.1.below.size
      have lg4 : g4 < Z2.heap.size := Nat.lt_of_lt_of_le lG4 HB2.out.1.below.size
      have d0_0 := HB2.out.2.1.cell 0 rfl
      have d0_1 := HB2.out.2.1.cell 1 rfl
      have ld0_ := HB2.out.2.1.lt
      have d1_0 := HB2.out.2.2.2.1.cell 0 rfl
      have d1_1 := HB2.out.2.2.2.1.cell 1 rfl
      have d1_2 := HB2.out.2.2.2.1.cell 2 rfl
      have d1_3 := HB2.out.2.2.2.1.cell 3 rfl
      have ld1_ := HB2.out.2.2.2.1.lt
      have d3_0 := HB2.out.2.2.2.2.cell 0 rfl
      have d3_1 := HB2.out.2.2.2.2.cell 1 rfl
      have d3_2 := HB2.out.2.2.2.2.cell 2 rfl
      have d3_3 := HB2.out.2.2.2.2.cell 3 rfl
      have ld3_ := HB2.out.2.2.2.2.lt
      ((first | with_reducible refine wp_region_ext2 (by kernel_rfl) (by kernel_rfl) ?_ | refine wp_region_ext (by kernel_rfl) (by kernel_rfl) ?_); (repeat (go_big_quiet_step ((go_at_call 17; with_reducible exact Gives.inRegion (sameworld_any (HB2.out.2.2.1.keeps (Up.keeps (Up.ext (Up.refl _) _) _)) (HBS.out _ (Up.ext HB2.out.1 _))))))); refine wpQuiet_nil ?_; intro _ hw'; obtain ⟨_, hw''⟩ := hw'; subst hw'')
      go_wp2
      go_roundw
      case rel => exact ⟨k + 1, by go_num, by omega, hide (by repeat (first | with_reducible exact HB2.out.1 | with_reducible exact Up.refl _ | apply Up.ext | apply Up.alloc | apply Up.drew | (refine Up.setCell ?_ (by simp [World.setCell]; try omega) _)))⟩
      case measure => simp [intOf]; omega
    · have hkb : decide ((k : Int) < 2) = false := by simp; omega
      have hkn : decide (k < 2) = false := by simp; omega
      have bd := bd6.out.up hw.out
      have e0 := bd.cell 0 rfl
      have e1 := bd.cell 1 rfl
      have e2 := bd.cell 2 rfl
      have e3 := bd.cell 3 rfl
      have e4 := bd.cell 4 rfl
      have le := bd.lt
      clear bd
      go_wp2_with fail
      ((first | with_reducible refine wp_region_ext2 (by kernel_rfl) (by kernel_rfl) ?_ | refine wp_region_ext (by kernel_rfl) (by kernel_rfl) ?_); (repeat (go_big_quiet_step ((first | (go_at_call 18; exact Gives.inRegion (fdrift_any _ _ _ _ _ _)) | (go_at_call 19; exact Gives.inRegion (g_drift _ _ _ _ _ _)) | (go_at_call 8; exact Gives.inRegion (awake_any _)))))); refine wpQuiet_nil ?_; intro _ hw'; obtain ⟨_, hw''⟩ := hw'; subst hw'')
      go_wp2
      go_ret
      exact ⟨rfl, (by repeat (first | with_reducible exact HU6.out.trans hw.out | with_reducible exact Up.refl _ | apply Up.ext | apply Up.alloc | apply Up.drew | (refine Up.setCell ?_ (by simp [World.setCell]; try omega) _)))⟩

set_option maxRecDepth 100000 in
theorem fpulls_lifted (os : Os) (started : os.Started) (H : Type) (enc : TypeId × Value → H) :
    ReturnsInHanded {} Tryz.checked os 3 .any (Rows.forcePullsSpec.pre6 enc Tryz.prog Tryz.f3 Rows.forcePullsRow.domain false) (Rows.forcePullsSpec.post enc Tryz.prog Tryz.f3 false true false false) := by
  refine returnsInHanded_of_change (C := Tryz.checked) knob_own started (by kernel_rfl) Tryz.func3
    (ChangeSpec.witness6 (enc := enc) (C := Tryz.checked) false ⟨#[], #[.agg #[.slice none 0 0, .int .i64 0], .agg #[.int .i64 (0), .int .i64 (0), .int .i64 (0), .int .i64 (0), .int .i64 (0)], .int .i64 0, .int .i64 0, .agg #[.int .i64 (0), .int .i64 (0), .int .i64 (0), .int .i64 (0)], .slice none 0 0], []⟩ 8 (by kernel_rfl) (by kernel_rfl) (by kernel_rfl) (by kernel_rfl)) ?_
  intro W base args ds gs before hval0 hW _ _
  have hval : ∀ (j : Nat) t v, Tryz.f3.params[j]? = some t → args[j]? = some v → Value.okWide Tryz.prog W .any base t v := hval0
  have hW' := hW
  obtain ⟨p, q, hA0, hV, rfl, _, _⟩ := hW
  have hA : DataW.TrodAll enc Tryz.prog W 0 (fun _ => true) true Tryz.f3.params.toList args.toList ds p := hA0
  rw [Tryz.params3] at hA hval
  obtain ⟨v0, vs0, d0, ds0, p0, q0, hargs, rfl, rfl, h0, r0⟩ := trodAll_cons hA
  obtain ⟨v1, vs1, d1, ds1, p1, q1, rfl, rfl, rfl, h1, r1⟩ := trodAll_cons r0
  obtain ⟨v2, vs2, d2, ds2, p2, q2, rfl, rfl, rfl, h2, r2⟩ := trodAll_cons r1
  obtain ⟨v3, vs3, d3, ds3, p3, q3, rfl, rfl, rfl, h3, r3⟩ := trodAll_cons r2
  obtain ⟨v4, vs4, d4, ds4, p4, q4, rfl, rfl, rfl, h4, r4⟩ := trodAll_cons r3
  obtain ⟨v5, vs5, d5, ds5, p5, q5, rfl, rfl, rfl, h5, r5⟩ := trodAll_cons r4
  obtain ⟨rfl, rfl, rfl⟩ := trodAll_nil r5
  obtain rfl : args = #[v0, v1, v2, v3, v4, v5] := by cases args; simp_all
  obtain ⟨rfl, rfl⟩ := trodVars_none hV
  have hlt0 : ∀ x ∈ p0, x.block < W.heap.size := fun x hx => hW'.lt x (by simp [hx])
  have hv0 := hval 0 24 v0 rfl rfl
  have shut0 := shut_stay (by kernel_rfl) (by kernel_rfl) h0 hlt0
  obtain ⟨bs0, home0, hw0⟩ := open_world hv0 h0
  have hlt1 : ∀ x ∈ p1, x.block < W.heap.size := fun x hx => hW'.lt x (by simp [hx])
  have hv1 := hval 1 28 v1 rfl rfl
  have shut1 := shut_stay (by kernel_rfl) (by kernel_rfl) h1 hlt1
  obtain ⟨a1, b1, c1, e1, g1, rfl⟩ := open_drift hv1 h1
  have hlt2 : ∀ x ∈ p2, x.block < W.heap.size := fun x hx => hW'.lt x (by simp [hx])
  have hv2 := hval 2 3 v2 rfl rfl
  have shut2 := shut_stay (by kernel_rfl) (by kernel_rfl) h2 hlt2
  obtain ⟨a2, rfl, _, _, w2⟩ := open_int Tryz.underlying3 hv2 h2
  have hlt3 : ∀ x ∈ p3, x.block < W.heap.size := fun x hx => hW'.lt x (by simp [hx])
  have hv3 := hval 3 2 v3 rfl rfl
  have shut3 := shut_stay (by kernel_rfl) (by kernel_rfl) h3 hlt3
  obtain ⟨a3, rfl, _, _, w3⟩ := open_int Tryz.underlying2 hv3 h3
  have hlt4 : ∀ x ∈ p4, x.block < W.heap.size := fun x hx => hW'.lt x (by simp [hx])
  have hv4 := hval 4 30 v4 rfl rfl
  have shut4 := shut_stay (by kernel_rfl) (by kernel_rfl) h4 hlt4
  obtain ⟨x4, y4, z4, u4, rfl, _, _, wx4, wy4, wz4, wu4⟩ := open_area hv4 h4
  have hlt5 : ∀ x ∈ p5, x.block < W.heap.size := fun x hx => hW'.lt x (by simp [hx])
  have hv5 := hval 5 31 v5 rfl rfl
  have shut5 := shut_stay (by kernel_rfl) (by kernel_rfl) h5 hlt5
  obtain ⟨hn5, _⟩ := open_nums hv5 h5 hlt5
  clear hA0 hval0
  simp only [List.append_nil] at hW'
  refine (fpulls_law v0 v5 hw0 a1 b1 c1 e1 g1 a2 a3 x4 y4 z4 u4 hn5).mono fun px => ?_
  exact ⟨_, rfl, post_of_below (pa := (p0 ++ (p1 ++ (p2 ++ (p3 ++ (p4 ++ (p5 ++ []))))))) (pv := []) hW' (fun _ _ _ => (trodAll_cons_mk (shut_bool Tryz.underlying4 _) trodAll_mk0)) (fun sp hsp => (trodAll_cons_mk (shut0 _ sp (Up.below ⟨px, rfl⟩) (fun x hx => hsp x (by simp [hx]))) (trodAll_cons_mk (shut1 _ sp (Up.below ⟨px, rfl⟩) (fun x hx => hsp x (by simp [hx]))) (trodAll_cons_mk (shut2 _ sp (Up.below ⟨px, rfl⟩) (fun x hx => hsp x (by simp [hx]))) (trodAll_cons_mk (shut3 _ sp (Up.below ⟨px, rfl⟩) (fun x hx => hsp x (by simp [hx]))) (trodAll_cons_mk (shut4 _ sp (Up.below ⟨px, rfl⟩) (fun x hx => hsp x (by simp [hx]))) (trodAll_cons_mk (shut5 _ sp (Up.below ⟨px, rfl⟩) (fun x hx => hsp x (by simp [hx]))) trodAll_mk0))))))) (fun _ _ => rfl) (by simp)
    (Up.below ⟨px, rfl⟩) (ok_one (by kernel_rfl) rfl (okWide_bool_mk Tryz.underlying4 _))⟩

theorem fpulls_holds : Rows.ForcePullsSaid :=
  OpenClaim.holds_of_wide 3 Tryz.f3 rfl rfl rfl rfl rfl rfl rfl ⟨rfl, rfl, rfl, rfl, rfl⟩ rfl rfl rfl rfl rfl (by kernel_rfl) Tryz.func3 (by kernel_rfl)
    (of_decide_eq_true (by kernel_rfl)) (by unfold Func.isWrapper; rw [if_neg (by decide +kernel)]; exact ⟨rfl, rfl⟩)
    (fun os started H enc _ => fpulls_lifted os started H enc)
#print axioms fpulls_holds
end Go.Proofs.YtbcgdhldkanecaaGreat
