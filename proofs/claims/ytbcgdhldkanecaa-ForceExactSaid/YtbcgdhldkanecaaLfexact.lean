/- ForceExact returns true for every input: the exact pull of a small body lies in the enclosures of its place and of each area about it. No conditions. -/
import Derived.Test.YtbcgdhldkanecaaPostn
import Derived.Test.YtbcgdhldkanecaaPostb
import Derived.Test.YtbcgdhldkanecaaPoint
import Derived.Test.YtbcgdhldkanecaaShown
import Derived.Test.YtbcgdhldkanecaaTreeb
import Derived.JoinedOf
import Derived.JoinedAt
import Derived.ChangeSame
import Derived.OpenShut
namespace Go.Proofs.Ytbcgdhldkanecaa
open Go.RowKit Go.ChangeShapes Go.WideShapes Go.ChangeAt Go.Joins Go.Shelf

/-- the question about a body of a small world -/
theorem xOne {mu r cx cy : Int} {a : Ar} (mu0 : 0 ≤ mu) (mu1 : mu ≤ 10000) (r0 : 0 ≤ r) (r1 : r ≤ 5) (hx : -500 ≤ cx ∧ cx ≤ 500) (hy : -500 ≤ cy ∧ cy ≤ 500) (ha : OrdA 1000 a) :
    oneV [⟨mu, r, [(cx, cy)]⟩] 0 0 3 a = (pullP mu r (cx, cy) a, 0) := by
  have hb : bodyE ⟨mu, r, [(cx, cy)]⟩ = 0 := by
    unfold bodyE
    rw [if_neg (by simp [withinB]; omega), if_neg (by simp), if_neg (by simp), if_neg (by simp [nearV, withinB]; omega)]
  have hw : worldE [⟨mu, r, [(cx, cy)]⟩] 0 = 0 := by
    unfold worldE
    rw [if_neg (by simp), if_neg (by simp), if_pos (by simp [firstE, hb]), if_neg (by simp)]
  obtain ⟨⟨x0, x1, x2⟩, y0, y1, y2⟩ := ha
  simp only [arX, arY] at x0 x1 x2 y0 y1 y2
  have hask : askedE [⟨mu, r, [(cx, cy)]⟩] 0 (0, 0) (0, 0) 0 3 a = 0 := by
    unfold askedE
    rw [if_pos hw, if_pos (by decide), if_pos (by decide), if_pos ?_, if_pos (by simp [limB]; omega)]
    have c1 := check_ok (a := a.1) (b := a.2.1) (by omega) (by omega) (by omega)
    have c2 := check_ok (a := a.2.2.1) (b := a.2.2.2) (by omega) (by omega) (by omega)
    have hfar : farA a.1 a.2.1 a.2.2.1 a.2.2.2 = true := by unfold farA; simp [farB, withinB]; omega
    unfold areaE
    rw [if_pos (valid_ok c1 c2), if_pos hfar]
  unfold oneV
  rw [if_pos hask, if_neg (by simp)]
  unfold pullB placeV
  simp

/-- what the statement says, in plain numbers: x and y the place, a the area -/
theorem exact_all {mu r cx cy dx dy e1 e2 e3 e4 : Int} (mu0 : 0 ≤ mu) (mu1 : mu ≤ 10000) (r0 : 0 ≤ r) (r1 : r ≤ 5) (hx : -500 ≤ cx ∧ cx ≤ 500) (hy : -500 ≤ cy ∧ cy ≤ 500) (hdx : -30 ≤ dx ∧ dx ≤ 30) (hdy : -30 ≤ dy ∧ dy ≤ 30)
    (h1 : 0 ≤ e1 ∧ e1 ≤ 9) (h2 : 0 ≤ e2 ∧ e2 ≤ 9) (h3 : 0 ≤ e3 ∧ e3 ≤ 9) (h4 : 0 ≤ e4 ∧ e4 ≤ 9) :
    ∃ n1 n2 n3 n4 : Int, let P := pullP mu r (cx, cy) (cx - dx, cx - dx, cy - dy, cy - dy)
      let Q := pullP mu r (cx, cy) (cx - dx - e1, cx - dx + e2, cy - dy - e3, cy - dy + e4)
      let s := max (max 1 (r * r)) (dx * dx + dy * dy)
      P = (n1, -n2, n3, -n4) ∧ inP (arX P) (arX Q) = true ∧ inP (arY P) (arY Q) = true ∧ (1 ≤ s ∧ s ≤ 1800) ∧
      ((-300000 ≤ n1 ∧ n1 ≤ 300000) ∧ atMostB n1 mu dx s = true ∧ n1 * n1 * s * s * s ≤ 1000000000000) ∧ ((-300000 ≤ n2 ∧ n2 ≤ 300000) ∧ atMostB n2 mu (-dx) s = true ∧ n2 * n2 * s * s * s ≤ 1000000000000) ∧
      ((-300000 ≤ n3 ∧ n3 ≤ 300000) ∧ atMostB n3 mu dy s = true ∧ n3 * n3 * s * s * s ≤ 1000000000000) ∧ ((-300000 ≤ n4 ∧ n4 ≤ 300000) ∧ atMostB n4 mu (-dy) s = true ∧ n4 * n4 * s * s * s ≤ 1000000000000) := by
  have hoP : OrdA 33554432 ((cx - dx, cx - dx, cy - dy, cy - dy) : Ar) := by unfold OrdA Ord arX arY; simp only; omega
  have hoQ : OrdA 33554432 ((cx - dx - e1, cx - dx + e2, cy - dy - e3, cy - dy + e4) : Ar) := by unfold OrdA Ord arX arY; simp only; omega
  have hsub : SubA ((cx - dx, cx - dx, cy - dy, cy - dy) : Ar) ((cx - dx - e1, cx - dx + e2, cy - dy - e3, cy - dy + e4) : Ar) := by unfold SubA Sub arX arY; simp only; omega
  have hps := pull_sub (mu := mu) (r := r) (p := (cx, cy)) mu0 (by omega) r0 (by omega) (by simp only; omega) (by simp only; omega) hoP hoQ hsub
  have a0 := mul_self_nonneg dx
  have a1 := mul_self_nonneg dy
  have b0 := mul_bd (x := dx) (y := dx) (B := 30) (C := 30) hdx.1 hdx.2 hdx.1 hdx.2
  have b1 := mul_bd (x := dy) (y := dy) (B := 30) (C := 30) hdy.1 hdy.2 hdy.1 hdy.2
  have c0 := sq_mono r0 r1
  obtain ⟨s, hs⟩ : ∃ s, max (max 1 (r * r)) (dx * dx + dy * dy) = s := ⟨_, rfl⟩
  have s0 : 1 ≤ s ∧ s ≤ 1800 := by omega
  have hv : toP (cx, cy) ((cx - dx, cx - dx, cy - dy, cy - dy) : Ar) = (dx, dx, dy, dy) := by
    rw [toP_val (by simp only; omega) (by simp only; omega) hoP]
    simp only
    rw [show cx - (cx - dx) = dx by omega, show cy - (cy - dy) = dy by omega]
  have sqabs : ∀ d : Int, max (max 0 d) (-d) * max (max 0 d) (-d) = d * d := fun d => by
    rcases Int.le_total 0 d with h | h
    · rw [show max (max 0 d) (-d) = d by omega]
    · rw [show max (max 0 d) (-d) = -d by omega, Int.neg_mul_neg]
  have sqabs2 : ∀ d : Int, max (-d) d * max (-d) d = d * d := fun d => by
    rcases Int.le_total 0 d with h | h
    · rw [show max (-d) d = d by omega]
    · rw [show max (-d) d = -d by omega, Int.neg_mul_neg]
  have hL : sqsL r ((dx, dx, dy, dy) : Ar) = s := by
    unfold sqsL lsz arX arY edgeV
    simp only
    rw [sqabs, sqabs]; omega
  have hH : sqsH r ((dx, dx, dy, dy) : Ar) = s := by
    unfold sqsH gsz arX arY edgeV
    simp only
    rw [sqabs2, sqabs2]; omega
  obtain ⟨n1, q1, q1'⟩ := exact_low (mu := mu) (d := dx) (s := s) mu0 mu1 hdx.1 hdx.2 s0.1 s0.2
  obtain ⟨n2, q2, q2'⟩ := exact_low (mu := mu) (d := -dx) (s := s) mu0 mu1 (by omega) (by omega) s0.1 s0.2
  obtain ⟨n3, q3, q3'⟩ := exact_low (mu := mu) (d := dy) (s := s) mu0 mu1 hdy.1 hdy.2 s0.1 s0.2
  obtain ⟨n4, q4, q4'⟩ := exact_low (mu := mu) (d := -dy) (s := s) mu0 mu1 (by omega) (by omega) s0.1 s0.2
  have hP : pullP mu r (cx, cy) (cx - dx, cx - dx, cy - dy, cy - dy) = (n1, -n2, n3, -n4) := by
    rw [pullP_val mu0 (by omega) r0 (by omega) (by simp only; omega) (by simp only; omega) hoP, hv, hL, hH]
    unfold arX arY minusP
    simp only
    rw [q1, q2, q3, q4]
  refine ⟨n1, n2, n3, n4, ?_⟩
  dsimp only
  rw [hs]
  exact ⟨hP, sub_in hps.1, sub_in hps.2, s0, q1', q2', q3', q4'⟩

theorem Box.set3 {w : World} {b : Nat} {x y z x' y' z' : Value} {t : TypeId} (h : Box w b #[x', y', z'] t) : Box (((w.setCell ⟨b, 0, none⟩ x).setCell ⟨b, 1, none⟩ y).setCell ⟨b, 2, none⟩ z) b #[x, y, z] t := ((h.set 0 x).set 1 y).set 2 z
set_option maxRecDepth 100000 in
set_option maxHeartbeats 100000000 in
theorem fexact_law (v0 : Value) {w : World} (hN : Nums w v0) : Gives Try.prog 3 #[v0] w (.bool true) := by
  obtain ⟨sa, sn, sc, rfl⟩ := hN.form
  have KP1 := hide (pointof_r hN (Nat.le_refl _) (n := 500) (by omega) (by omega))
  have KP2 := hide (pointof_r hN (Nat.le_refl _) (n := 30) (by omega) (by omega))
  have KR1 := hide (fun t W hu hb t0 t1 => range_any w _ hN w.heap.size t 0 10000 W hu hb (Nat.le_refl _) t0 t1 (by omega) (by omega) (by omega))
  have KR2 := hide (fun t W hu hb t0 t1 => range_any w _ hN w.heap.size t 0 5 W hu hb (Nat.le_refl _) t0 t1 (by omega) (by omega) (by omega))
  have KR3 := hide (fun t W hu hb t0 t1 => range_any w _ hN w.heap.size t 0 9 W hu hb (Nat.le_refl _) t0 t1 (by omega) (by omega) (by omega))
  clear hN
  (unfold Gives; go_enter Try.func3, Try.ntmps3)
  go_wp2_with fail
  refine (newring_any _ _ _ _).mono ?_
  rintro _ _ ⟨rfl, rfl⟩
  go_wp2_with fail
  go_at_call 11
  refine (KP1.out 0 _ (by repeat (first | with_reducible exact Up.refl _ | with_reducible apply Up.plus | apply Up.ext | apply Up.alloc | apply Up.drew | (refine Up.setCell ?_ (by simp; try omega) _))) (by repeat (first | exact Box.mk rfl | (refine Box.mk ?_; simp; done) | apply Box.ext | apply Box.drew | apply Box.alloc | apply Box.two1 | (refine Box.other ?_ (by omega) _ _))) (by omega) (by omega)).mono ?_
  rintro _ _ ⟨_, t1, q1, rfl, ⟨cx, cy, cx0, cx1, cy0, cy1, rfl⟩, t10, t11, rfl⟩
  go_wp2_with fail
  go_at_call 11
  refine (KP2.out t1 _ (by repeat (first | with_reducible exact Up.refl _ | with_reducible apply Up.plus | apply Up.ext | apply Up.alloc | apply Up.drew | (refine Up.setCell ?_ (by simp; try omega) _))) (by repeat (first | exact Box.mk rfl | (refine Box.mk ?_; simp; done) | apply Box.ext | apply Box.drew | apply Box.alloc | apply Box.two1 | (refine Box.other ?_ (by omega) _ _))) (by omega) (by omega)).mono ?_
  rintro _ _ ⟨_, t2, q2, rfl, ⟨dx, dy, dx0, dx1, dy0, dy1, rfl⟩, t20, t21, rfl⟩
  go_wp2_with fail
  generalize (q1.plus q2) = px
  obtain ⟨N, hN⟩ : ∃ N, w.heap.size + 1 + px.os.size = N := ⟨_, rfl⟩
  rw [hN]
  refine forgetW (fun W => Up w W ∧ Box W w.heap.size #[.slice sa sn sc, .int .i64 t2] 81 ∧ Box W N #[.int .i64 (cx), .int .i64 (cy)] 26 ∧ Box W (N + 1) #[.int .i64 (dx), .int .i64 (dy)] 26) ⟨(by repeat (first | with_reducible exact Up.refl _ | with_reducible apply Up.plus | apply Up.ext | apply Up.alloc | apply Up.drew | (refine Up.setCell ?_ (by simp; try omega) _))), (by repeat (first | exact Box.mk rfl | (refine Box.mk ?_; simp; done) | apply Box.ext | apply Box.drew | apply Box.alloc | apply Box.two1 | (refine Box.other ?_ (by omega) _ _))), by rw [← hN]; exact (by repeat (first | exact Box.mk rfl | (refine Box.mk ?_; simp; done) | apply Box.ext | apply Box.drew | apply Box.alloc | apply Box.two1 | (refine Box.other ?_ (by omega) _ _))), by rw [← hN]; exact (by repeat (first | exact Box.mk rfl | (refine Box.mk ?_; simp; done) | apply Box.ext | apply Box.drew | apply Box.alloc | apply Box.two1 | (refine Box.other ?_ (by omega) _ _)))⟩ ?_
  have hNl : w.heap.size < N := by omega
  clear hN KP1 KP2
  rintro W0 ⟨hu, br, bc, bd⟩
  have hl1 := bc.lt
  have hl2 := bd.lt
  have c0 := bc.cell 0 rfl
  have c1 := bc.cell 1 rfl
  have HW0 := hide (And.intro hu (And.intro br (And.intro bc bd)))
  clear hu br bc bd
  refine wp_via (fun a a' W => ∃ (T G : Nat) (mu rad t : Int), a' = { a with tmps := (((((((a.tmps.setIfInBounds 22 (.pointer (some ⟨w.heap.size, 0, none⟩))).setIfInBounds 23 (.int .i64 mu)).setIfInBounds 24 (.pointer (some ⟨w.heap.size, 0, none⟩))).setIfInBounds 25 (.int .i64 rad)).setIfInBounds 26 (.agg #[.int .i64 (cx), .int .i64 (cy)])).setIfInBounds 27 (.slice (some ⟨T, 0, none⟩) 1 1)).setIfInBounds 28 (.agg #[.int .i64 mu, .int .i64 rad, .slice (some ⟨T, 0, none⟩) 1 1])).setIfInBounds 6 (.pointer (some ⟨G, 0, none⟩)) } ∧
    (0 ≤ mu ∧ mu ≤ 10000) ∧ (0 ≤ rad ∧ rad ≤ 5) ∧ (0 ≤ t ∧ t ≤ 10) ∧ (N + 1 < T ∧ N + 1 < G ∧ T ≠ G) ∧ Up w W ∧ Box W w.heap.size #[.slice sa sn sc, .int .i64 t] 81 ∧ Box W N #[.int .i64 (cx), .int .i64 (cy)] 26 ∧ Box W (N + 1) #[.int .i64 (dx), .int .i64 (dy)] 26 ∧ Box W T #[.int .i64 (cx), .int .i64 (cy)] 26 ∧ Box W G #[.int .i64 mu, .int .i64 rad, .slice (some ⟨T, 0, none⟩) 1 1] 31) (fun KV HVIA => ?_) ?_
  · refine wp_region_L (fun W => Box W N #[.int .i64 (cx), .int .i64 (cy)] 26) 8 (by kernel_rfl) ?_
    have hS0 : Hid (Box W0.drew N #[.int .i64 (cx), .int .i64 (cy)] 26) := HW0.out.2.2.1.drew
    refine anyL_take 0 (v := (.pointer (some ⟨w.heap.size, 0, none⟩))) rfl (by kernel_rfl) (fun _ _ _ h => h) (.inl ⟨rfl, fun W hW => ?_⟩) hS0.out ?_
    · simp [go_sem]
    simp only [Act.put, List.setIfInBounds_toArray, List.set_cons_zero, List.set_cons_succ]
    refine anyL_take 2 (v := (.pointer (some ⟨w.heap.size, 0, none⟩))) rfl (by kernel_rfl) (fun _ _ _ h => h) (.inl ⟨rfl, fun W hW => ?_⟩) hS0.out ?_
    · simp [go_sem]
    simp only [Act.put, List.setIfInBounds_toArray, List.set_cons_zero, List.set_cons_succ]
    refine anyL_take 4 (v := (.agg #[.int .i64 (cx), .int .i64 (cy)])) rfl (by kernel_rfl) (fun _ _ _ h => h) (.inl ⟨rfl, fun W hW => ?_⟩) hS0.out ?_
    · have z0 := hW.cell 0 rfl
      have z1 := hW.cell 1 rfl
      simp [go_sem, z0, z1]
    simp only [Act.put, List.setIfInBounds_toArray, List.set_cons_zero, List.set_cons_succ]
    refine anyL_three (i := 1) (j := 5) (k := 7) (by kernel_rfl) rfl rfl rfl (fun K HK => ?_) (fun K HK => ?_) (fun K HK => ?_)
    · go_wp2_with fail
      go_at_call 12
      refine (KR1.out t2 _ (by repeat (first | with_reducible exact HW0.out.1 | with_reducible exact Up.refl _ | with_reducible apply Up.plus | with_reducible apply Up.ext | with_reducible apply Up.alloc | with_reducible apply Up.drew | (with_reducible refine Up.setCell ?_ (by simp <;> omega) _))) (by repeat (first | with_reducible exact HW0.out.2.1 | with_reducible apply Box.ext | with_reducible apply Box.alloc | with_reducible apply Box.drew | with_reducible apply Box.two1 | (with_reducible refine Box.other ?_ (by omega) _ _))) (by omega) (by omega)).mono ?_
      rintro _ _ ⟨mu, p1, mu0, mu1, rfl, rfl⟩
      go_wp2
      refine HK.out _ _ (fun _ => (by repeat (first | with_reducible exact HW0.out.2.2.1 | with_reducible apply Box.ext | with_reducible apply Box.alloc | with_reducible apply Box.drew | (with_reducible refine Box.other ?_ (by omega) _ _)))) ?_
      clear HK
      refine anyL_three (i := 3) (j := 5) (k := 7) (by kernel_rfl) rfl rfl rfl (fun K HK => ?_) (fun K HK => ?_) (fun K HK => ?_)
      · go_wp2_with fail
        go_at_call 12
        refine (KR2.out (t2 + 1) _ (by repeat (first | with_reducible exact HW0.out.1 | with_reducible exact Up.refl _ | with_reducible apply Up.plus | with_reducible apply Up.ext | with_reducible apply Up.alloc | with_reducible apply Up.drew | (with_reducible refine Up.setCell ?_ (by simp <;> omega) _))) (by repeat (first | with_reducible exact HW0.out.2.1 | with_reducible apply Box.ext | with_reducible apply Box.alloc | with_reducible apply Box.drew | with_reducible apply Box.two1 | (with_reducible refine Box.other ?_ (by omega) _ _))) (by omega) (by omega)).mono ?_
        rintro _ _ ⟨rad, p2, rad0, rad1, rfl, rfl⟩
        go_wp2
        refine HK.out _ _ (fun _ => (by repeat (first | with_reducible exact HW0.out.2.2.1 | with_reducible apply Box.ext | with_reducible apply Box.alloc | with_reducible apply Box.drew | (with_reducible refine Box.other ?_ (by omega) _ _)))) ?_
        clear HK
        refine anyL_two (i := 5) (j := 7) (by kernel_rfl) rfl rfl (fun K HK => ?_) (fun K HK => ?_)
        · go_wp2
          refine HK.out _ _ (fun _ => (by repeat (first | with_reducible exact HW0.out.2.2.1 | with_reducible apply Box.ext | with_reducible apply Box.alloc | with_reducible apply Box.drew | (with_reducible refine Box.other ?_ (by omega) _ _)))) ?_
          clear HK
          refine anyL_take 6 (v := (.agg #[.int .i64 mu, .int .i64 rad, .slice (some ⟨W0.heap.size + (p1.plus p2).os.size, 0, none⟩) 1 1])) rfl (by kernel_rfl) (fun _ _ _ h => h) (.inl ⟨rfl, fun W hW => ?_⟩) (by repeat (first | with_reducible exact HW0.out.2.2.1 | with_reducible apply Box.ext | with_reducible apply Box.alloc | with_reducible apply Box.drew | (with_reducible refine Box.other ?_ (by omega) _ _))) ?_
          · simp [go_sem]
          simp only [Act.put, List.setIfInBounds_toArray, List.set_cons_zero, List.set_cons_succ]
          refine anyL_one (i := 7) (by kernel_rfl) rfl (fun K HK => ?_)
          go_wp2
          refine HK.out _ _ (fun _ => (by repeat (first | with_reducible exact HW0.out.2.2.1 | with_reducible apply Box.ext | with_reducible apply Box.alloc | with_reducible apply Box.drew | (with_reducible refine Box.other ?_ (by omega) _ _)))) ?_
          clear HK
          refine anyL_one (i := 8) (by kernel_rfl) rfl (fun K HK => ?_)
          go_wp2
          refine HK.out _ _ (fun h => absurd rfl h) ?_
          clear HK
          refine anyL_done (by kernel_rfl) ?_
          refine HVIA.out _ _ ⟨W0.heap.size + (p1.plus p2).os.size, W0.heap.size + (p1.plus p2).os.size + 1, mu, rad, t2 + 1 + 1, by kernel_rfl, ⟨mu0, mu1⟩, ⟨rad0, rad1⟩, by omega, ⟨by omega, by omega, by omega⟩, (by repeat (first | with_reducible exact HW0.out.1 | with_reducible exact Up.refl _ | with_reducible apply Up.plus | with_reducible apply Up.ext | with_reducible apply Up.alloc | with_reducible apply Up.drew | (with_reducible refine Up.setCell ?_ (by simp <;> omega) _))), (by repeat (first | with_reducible exact HW0.out.2.1 | with_reducible apply Box.ext | with_reducible apply Box.alloc | with_reducible apply Box.drew | with_reducible apply Box.two1 | (with_reducible refine Box.other ?_ (by omega) _ _))), (by repeat (first | with_reducible exact HW0.out.2.2.1 | with_reducible apply Box.ext | with_reducible apply Box.alloc | with_reducible apply Box.drew | (with_reducible refine Box.other ?_ (by omega) _ _))), (by repeat (first | with_reducible exact HW0.out.2.2.2 | with_reducible apply Box.ext | with_reducible apply Box.alloc | with_reducible apply Box.drew | (with_reducible refine Box.other ?_ (by omega) _ _))), (by repeat (first | (with_reducible refine Box.set3 (x' := .int .i64 0) (y' := .int .i64 0) (z' := .slice none 0 0) ?_) | (with_reducible refine Box.mk ?_; simp; done) | with_reducible apply Box.ext | with_reducible apply Box.alloc | with_reducible apply Box.drew | (with_reducible refine Box.other ?_ (by omega) _ _))), (by repeat (first | (with_reducible refine Box.set3 (x' := .int .i64 0) (y' := .int .i64 0) (z' := .slice none 0 0) ?_) | (with_reducible refine Box.mk ?_; simp; done) | with_reducible apply Box.ext | with_reducible apply Box.alloc | with_reducible apply Box.drew | (with_reducible refine Box.other ?_ (by omega) _ _)))⟩
        · go_wp2
          refine HK.out _ _ (fun _ => (by repeat (first | with_reducible exact HW0.out.2.2.1 | with_reducible apply Box.ext | with_reducible apply Box.alloc | with_reducible apply Box.drew | (with_reducible refine Box.other ?_ (by omega) _ _)))) ?_
          clear HK
          refine anyL_one (i := 5) (by kernel_rfl) rfl (fun K HK => ?_)
          go_wp2
          refine HK.out _ _ (fun _ => (by repeat (first | with_reducible exact HW0.out.2.2.1 | with_reducible apply Box.ext | with_reducible apply Box.alloc | with_reducible apply Box.drew | (with_reducible refine Box.other ?_ (by omega) _ _)))) ?_
          clear HK
          refine anyL_take 6 (v := (.agg #[.int .i64 mu, .int .i64 rad, .slice (some ⟨W0.heap.size + (p1.plus p2).os.size + 1, 0, none⟩) 1 1])) rfl (by kernel_rfl) (fun _ _ _ h => h) (.inl ⟨rfl, fun W hW => ?_⟩) (by repeat (first | with_reducible exact HW0.out.2.2.1 | with_reducible apply Box.ext | with_reducible apply Box.alloc | with_reducible apply Box.drew | (with_reducible refine Box.other ?_ (by omega) _ _))) ?_
          · simp [go_sem]
          simp only [Act.put, List.setIfInBounds_toArray, List.set_cons_zero, List.set_cons_succ]
          refine anyL_one (i := 8) (by kernel_rfl) rfl (fun K HK => ?_)
          go_wp2
          refine HK.out _ _ (fun h => absurd rfl h) ?_
          clear HK
          refine anyL_done (by kernel_rfl) ?_
          refine HVIA.out _ _ ⟨W0.heap.size + (p1.plus p2).os.size + 1, W0.heap.size + (p1.plus p2).os.size, mu, rad, t2 + 1 + 1, by kernel_rfl, ⟨mu0, mu1⟩, ⟨rad0, rad1⟩, by omega, ⟨by omega, by omega, by omega⟩, (by repeat (first | with_reducible exact HW0.out.1 | with_reducible exact Up.refl _ | with_reducible apply Up.plus | with_reducible apply Up.ext | with_reducible apply Up.alloc | with_reducible apply Up.drew | (with_reducible refine Up.setCell ?_ (by simp <;> omega) _))), (by repeat (first | with_reducible exact HW0.out.2.1 | with_reducible apply Box.ext | with_reducible apply Box.alloc | with_reducible apply Box.drew | with_reducible apply Box.two1 | (with_reducible refine Box.other ?_ (by omega) _ _))), (by repeat (first | with_reducible exact HW0.out.2.2.1 | with_reducible apply Box.ext | with_reducible apply Box.alloc | with_reducible apply Box.drew | (with_reducible refine Box.other ?_ (by omega) _ _))), (by repeat (first | with_reducible exact HW0.out.2.2.2 | with_reducible apply Box.ext | with_reducible apply Box.alloc | with_reducible apply Box.drew | (with_reducible refine Box.other ?_ (by omega) _ _))), (by repeat (first | (with_reducible refine Box.set3 (x' := .int .i64 0) (y' := .int .i64 0) (z' := .slice none 0 0) ?_) | (with_reducible refine Box.mk ?_; simp; done) | with_reducible apply Box.ext | with_reducible apply Box.alloc | with_reducible apply Box.drew | (with_reducible refine Box.other ?_ (by omega) _ _))), (by repeat (first | (with_reducible refine Box.set3 (x' := .int .i64 0) (y' := .int .i64 0) (z' := .slice none 0 0) ?_) | (with_reducible refine Box.mk ?_; simp; done) | with_reducible apply Box.ext | with_reducible apply Box.alloc | with_reducible apply Box.drew | (with_reducible refine Box.other ?_ (by omega) _ _)))⟩
      · go_wp2
        refine HK.out _ _ (fun _ => (by repeat (first | with_reducible exact HW0.out.2.2.1 | with_reducible apply Box.ext | with_reducible apply Box.alloc | with_reducible apply Box.drew | (with_reducible refine Box.other ?_ (by omega) _ _)))) ?_
        clear HK
        refine anyL_two (i := 3) (j := 7) (by kernel_rfl) rfl rfl (fun K HK => ?_) (fun K HK => ?_)
        · go_wp2_with fail
          go_at_call 12
          refine (KR2.out (t2 + 1) _ (by repeat (first | with_reducible exact HW0.out.1 | with_reducible exact Up.refl _ | with_reducible apply Up.plus | with_reducible apply Up.ext | with_reducible apply Up.alloc | with_reducible apply Up.drew | (with_reducible refine Up.setCell ?_ (by simp <;> omega) _))) (by repeat (first | with_reducible exact HW0.out.2.1 | with_reducible apply Box.ext | with_reducible apply Box.alloc | with_reducible apply Box.drew | with_reducible apply Box.two1 | (with_reducible refine Box.other ?_ (by omega) _ _))) (by omega) (by omega)).mono ?_
          rintro _ _ ⟨rad, p2, rad0, rad1, rfl, rfl⟩
          go_wp2
          refine HK.out _ _ (fun _ => (by repeat (first | with_reducible exact HW0.out.2.2.1 | with_reducible apply Box.ext | with_reducible apply Box.alloc | with_reducible apply Box.drew | (with_reducible refine Box.other ?_ (by omega) _ _)))) ?_
          clear HK
          refine anyL_take 6 (v := (.agg #[.int .i64 mu, .int .i64 rad, .slice (some ⟨W0.heap.size + p1.os.size, 0, none⟩) 1 1])) rfl (by kernel_rfl) (fun _ _ _ h => h) (.inl ⟨rfl, fun W hW => ?_⟩) (by repeat (first | with_reducible exact HW0.out.2.2.1 | with_reducible apply Box.ext | with_reducible apply Box.alloc | with_reducible apply Box.drew | (with_reducible refine Box.other ?_ (by omega) _ _))) ?_
          · simp [go_sem]
          simp only [Act.put, List.setIfInBounds_toArray, List.set_cons_zero, List.set_cons_succ]
          refine anyL_one (i := 7) (by kernel_rfl) rfl (fun K HK => ?_)
          go_wp2
          refine HK.out _ _ (fun _ => (by repeat (first | with_reducible exact HW0.out.2.2.1 | with_reducible apply Box.ext | with_reducible apply Box.alloc | with_reducible apply Box.drew | (with_reducible refine Box.other ?_ (by omega) _ _)))) ?_
          clear HK
          refine anyL_one (i := 8) (by kernel_rfl) rfl (fun K HK => ?_)
          go_wp2
          refine HK.out _ _ (fun h => absurd rfl h) ?_
          clear HK
          refine anyL_done (by kernel_rfl) ?_
          refine HVIA.out _ _ ⟨W0.heap.size + p1.os.size, W0.heap.size + p1.os.size + 1 + p2.os.size, mu, rad, t2 + 1 + 1, by kernel_rfl, ⟨mu0, mu1⟩, ⟨rad0, rad1⟩, by omega, ⟨by omega, by omega, by omega⟩, (by repeat (first | with_reducible exact HW0.out.1 | with_reducible exact Up.refl _ | with_reducible apply Up.plus | with_reducible apply Up.ext | with_reducible apply Up.alloc | with_reducible apply Up.drew | (with_reducible refine Up.setCell ?_ (by simp <;> omega) _))), (by repeat (first | with_reducible exact HW0.out.2.1 | with_reducible apply Box.ext | with_reducible apply Box.alloc | with_reducible apply Box.drew | with_reducible apply Box.two1 | (with_reducible refine Box.other ?_ (by omega) _ _))), (by repeat (first | with_reducible exact HW0.out.2.2.1 | with_reducible apply Box.ext | with_reducible apply Box.alloc | with_reducible apply Box.drew | (with_reducible refine Box.other ?_ (by omega) _ _))), (by repeat (first | with_reducible exact HW0.out.2.2.2 | with_reducible apply Box.ext | with_reducible apply Box.alloc | with_reducible apply Box.drew | (with_reducible refine Box.other ?_ (by omega) _ _))), (by repeat (first | (with_reducible refine Box.set3 (x' := .int .i64 0) (y' := .int .i64 0) (z' := .slice none 0 0) ?_) | (with_reducible refine Box.mk ?_; simp; done) | with_reducible apply Box.ext | with_reducible apply Box.alloc | with_reducible apply Box.drew | (with_reducible refine Box.other ?_ (by omega) _ _))), (by repeat (first | (with_reducible refine Box.set3 (x' := .int .i64 0) (y' := .int .i64 0) (z' := .slice none 0 0) ?_) | (with_reducible refine Box.mk ?_; simp; done) | with_reducible apply Box.ext | with_reducible apply Box.alloc | with_reducible apply Box.drew | (with_reducible refine Box.other ?_ (by omega) _ _)))⟩
        · go_wp2
          refine HK.out _ _ (fun _ => (by repeat (first | with_reducible exact HW0.out.2.2.1 | with_reducible apply Box.ext | with_reducible apply Box.alloc | with_reducible apply Box.drew | (with_reducible refine Box.other ?_ (by omega) _ _)))) ?_
          clear HK
          refine anyL_one (i := 3) (by kernel_rfl) rfl (fun K HK => ?_)
          go_wp2_with fail
          go_at_call 12
          refine (KR2.out (t2 + 1) _ (by repeat (first | with_reducible exact HW0.out.1 | with_reducible exact Up.refl _ | with_reducible apply Up.plus | with_reducible apply Up.ext | with_reducible apply Up.alloc | with_reducible apply Up.drew | (with_reducible refine Up.setCell ?_ (by simp <;> omega) _))) (by repeat (first | with_reducible exact HW0.out.2.1 | with_reducible apply Box.ext | with_reducible apply Box.alloc | with_reducible apply Box.drew | with_reducible apply Box.two1 | (with_reducible refine Box.other ?_ (by omega) _ _))) (by omega) (by omega)).mono ?_
          rintro _ _ ⟨rad, p2, rad0, rad1, rfl, rfl⟩
          go_wp2
          refine HK.out _ _ (fun _ => (by repeat (first | with_reducible exact HW0.out.2.2.1 | with_reducible apply Box.ext | with_reducible apply Box.alloc | with_reducible apply Box.drew | (with_reducible refine Box.other ?_ (by omega) _ _)))) ?_
          clear HK
          refine anyL_take 6 (v := (.agg #[.int .i64 mu, .int .i64 rad, .slice (some ⟨W0.heap.size + p1.os.size, 0, none⟩) 1 1])) rfl (by kernel_rfl) (fun _ _ _ h => h) (.inl ⟨rfl, fun W hW => ?_⟩) (by repeat (first | with_reducible exact HW0.out.2.2.1 | with_reducible apply Box.ext | with_reducible apply Box.alloc | with_reducible apply Box.drew | (with_reducible refine Box.other ?_ (by omega) _ _))) ?_
          · simp [go_sem]
          simp only [Act.put, List.setIfInBounds_toArray, List.set_cons_zero, List.set_cons_succ]
          refine anyL_one (i := 8) (by kernel_rfl) rfl (fun K HK => ?_)
          go_wp2
          refine HK.out _ _ (fun h => absurd rfl h) ?_
          clear HK
          refine anyL_done (by kernel_rfl) ?_
          refine HVIA.out _ _ ⟨W0.heap.size + p1.os.size, W0.heap.size + p1.os.size + 1, mu, rad, t2 + 1 + 1, by kernel_rfl, ⟨mu0, mu1⟩, ⟨rad0, rad1⟩, by omega, ⟨by omega, by omega, by omega⟩, (by repeat (first | with_reducible exact HW0.out.1 | with_reducible exact Up.refl _ | with_reducible apply Up.plus | with_reducible apply Up.ext | with_reducible apply Up.alloc | with_reducible apply Up.drew | (with_reducible refine Up.setCell ?_ (by simp <;> omega) _))), (by repeat (first | with_reducible exact HW0.out.2.1 | with_reducible apply Box.ext | with_reducible apply Box.alloc | with_reducible apply Box.drew | with_reducible apply Box.two1 | (with_reducible refine Box.other ?_ (by omega) _ _))), (by repeat (first | with_reducible exact HW0.out.2.2.1 | with_reducible apply Box.ext | with_reducible apply Box.alloc | with_reducible apply Box.drew | (with_reducible refine Box.other ?_ (by omega) _ _))), (by repeat (first | with_reducible exact HW0.out.2.2.2 | with_reducible apply Box.ext | with_reducible apply Box.alloc | with_reducible apply Box.drew | (with_reducible refine Box.other ?_ (by omega) _ _))), (by repeat (first | (with_reducible refine Box.set3 (x' := .int .i64 0) (y' := .int .i64 0) (z' := .slice none 0 0) ?_) | (with_reducible refine Box.mk ?_; simp; done) | with_reducible apply Box.ext | with_reducible apply Box.alloc | with_reducible apply Box.drew | (with_reducible refine Box.other ?_ (by omega) _ _))), (by repeat (first | (with_reducible refine Box.set3 (x' := .int .i64 0) (y' := .int .i64 0) (z' := .slice none 0 0) ?_) | (with_reducible refine Box.mk ?_; simp; done) | with_reducible apply Box.ext | with_reducible apply Box.alloc | with_reducible apply Box.drew | (with_reducible refine Box.other ?_ (by omega) _ _)))⟩
      · go_wp2
        refine HK.out _ _ (fun _ => (by repeat (first | with_reducible exact HW0.out.2.2.1 | with_reducible apply Box.ext | with_reducible apply Box.alloc | with_reducible apply Box.drew | (with_reducible refine Box.other ?_ (by omega) _ _)))) ?_
        clear HK
        refine anyL_two (i := 3) (j := 5) (by kernel_rfl) rfl rfl (fun K HK => ?_) (fun K HK => ?_)
        · go_wp2_with fail
          go_at_call 12
          refine (KR2.out (t2 + 1) _ (by repeat (first | with_reducible exact HW0.out.1 | with_reducible exact Up.refl _ | with_reducible apply Up.plus | with_reducible apply Up.ext | with_reducible apply Up.alloc | with_reducible apply Up.drew | (with_reducible refine Up.setCell ?_ (by simp <;> omega) _))) (by repeat (first | with_reducible exact HW0.out.2.1 | with_reducible apply Box.ext | with_reducible apply Box.alloc | with_reducible apply Box.drew | with_reducible apply Box.two1 | (with_reducible refine Box.other ?_ (by omega) _ _))) (by omega) (by omega)).mono ?_
          rintro _ _ ⟨rad, p2, rad0, rad1, rfl, rfl⟩
          go_wp2
          refine HK.out _ _ (fun _ => (by repeat (first | with_reducible exact HW0.out.2.2.1 | with_reducible apply Box.ext | with_reducible apply Box.alloc | with_reducible apply Box.drew | (with_reducible refine Box.other ?_ (by omega) _ _)))) ?_
          clear HK
          refine anyL_one (i := 5) (by kernel_rfl) rfl (fun K HK => ?_)
          go_wp2
          refine HK.out _ _ (fun _ => (by repeat (first | with_reducible exact HW0.out.2.2.1 | with_reducible apply Box.ext | with_reducible apply Box.alloc | with_reducible apply Box.drew | (with_reducible refine Box.other ?_ (by omega) _ _)))) ?_
          clear HK
          refine anyL_take 6 (v := (.agg #[.int .i64 mu, .int .i64 rad, .slice (some ⟨W0.heap.size + p1.os.size + 1 + p2.os.size, 0, none⟩) 1 1])) rfl (by kernel_rfl) (fun _ _ _ h => h) (.inl ⟨rfl, fun W hW => ?_⟩) (by repeat (first | with_reducible exact HW0.out.2.2.1 | with_reducible apply Box.ext | with_reducible apply Box.alloc | with_reducible apply Box.drew | (with_reducible refine Box.other ?_ (by omega) _ _))) ?_
          · simp [go_sem]
          simp only [Act.put, List.setIfInBounds_toArray, List.set_cons_zero, List.set_cons_succ]
          refine anyL_one (i := 8) (by kernel_rfl) rfl (fun K HK => ?_)
          go_wp2
          refine HK.out _ _ (fun h => absurd rfl h) ?_
          clear HK
          refine anyL_done (by kernel_rfl) ?_
          refine HVIA.out _ _ ⟨W0.heap.size + p1.os.size + 1 + p2.os.size, W0.heap.size + p1.os.size, mu, rad, t2 + 1 + 1, by kernel_rfl, ⟨mu0, mu1⟩, ⟨rad0, rad1⟩, by omega, ⟨by omega, by omega, by omega⟩, (by repeat (first | with_reducible exact HW0.out.1 | with_reducible exact Up.refl _ | with_reducible apply Up.plus | with_reducible apply Up.ext | with_reducible apply Up.alloc | with_reducible apply Up.drew | (with_reducible refine Up.setCell ?_ (by simp <;> omega) _))), (by repeat (first | with_reducible exact HW0.out.2.1 | with_reducible apply Box.ext | with_reducible apply Box.alloc | with_reducible apply Box.drew | with_reducible apply Box.two1 | (with_reducible refine Box.other ?_ (by omega) _ _))), (by repeat (first | with_reducible exact HW0.out.2.2.1 | with_reducible apply Box.ext | with_reducible apply Box.alloc | with_reducible apply Box.drew | (with_reducible refine Box.other ?_ (by omega) _ _))), (by repeat (first | with_reducible exact HW0.out.2.2.2 | with_reducible apply Box.ext | with_reducible apply Box.alloc | with_reducible apply Box.drew | (with_reducible refine Box.other ?_ (by omega) _ _))), (by repeat (first | (with_reducible refine Box.set3 (x' := .int .i64 0) (y' := .int .i64 0) (z' := .slice none 0 0) ?_) | (with_reducible refine Box.mk ?_; simp; done) | with_reducible apply Box.ext | with_reducible apply Box.alloc | with_reducible apply Box.drew | (with_reducible refine Box.other ?_ (by omega) _ _))), (by repeat (first | (with_reducible refine Box.set3 (x' := .int .i64 0) (y' := .int .i64 0) (z' := .slice none 0 0) ?_) | (with_reducible refine Box.mk ?_; simp; done) | with_reducible apply Box.ext | with_reducible apply Box.alloc | with_reducible apply Box.drew | (with_reducible refine Box.other ?_ (by omega) _ _)))⟩
        · go_wp2
          refine HK.out _ _ (fun _ => (by repeat (first | with_reducible exact HW0.out.2.2.1 | with_reducible apply Box.ext | with_reducible apply Box.alloc | with_reducible apply Box.drew | (with_reducible refine Box.other ?_ (by omega) _ _)))) ?_
          clear HK
          refine anyL_one (i := 3) (by kernel_rfl) rfl (fun K HK => ?_)
          go_wp2_with fail
          go_at_call 12
          refine (KR2.out (t2 + 1) _ (by repeat (first | with_reducible exact HW0.out.1 | with_reducible exact Up.refl _ | with_reducible apply Up.plus | with_reducible apply Up.ext | with_reducible apply Up.alloc | with_reducible apply Up.drew | (with_reducible refine Up.setCell ?_ (by simp <;> omega) _))) (by repeat (first | with_reducible exact HW0.out.2.1 | with_reducible apply Box.ext | with_reducible apply Box.alloc | with_reducible apply Box.drew | with_reducible apply Box.two1 | (with_reducible refine Box.other ?_ (by omega) _ _))) (by omega) (by omega)).mono ?_
          rintro _ _ ⟨rad, p2, rad0, rad1, rfl, rfl⟩
          go_wp2
          refine HK.out _ _ (fun _ => (by repeat (first | with_reducible exact HW0.out.2.2.1 | with_reducible apply Box.ext | with_reducible apply Box.alloc | with_reducible apply Box.drew | (with_reducible refine Box.other ?_ (by omega) _ _)))) ?_
          clear HK
          refine anyL_take 6 (v := (.agg #[.int .i64 mu, .int .i64 rad, .slice (some ⟨W0.heap.size + p1.os.size + 1, 0, none⟩) 1 1])) rfl (by kernel_rfl) (fun _ _ _ h => h) (.inl ⟨rfl, fun W hW => ?_⟩) (by repeat (first | with_reducible exact HW0.out.2.2.1 | with_reducible apply Box.ext | with_reducible apply Box.alloc | with_reducible apply Box.drew | (with_reducible refine Box.other ?_ (by omega) _ _))) ?_
          · simp [go_sem]
          simp only [Act.put, List.setIfInBounds_toArray, List.set_cons_zero, List.set_cons_succ]
          refine anyL_one (i := 8) (by kernel_rfl) rfl (fun K HK => ?_)
          go_wp2
          refine HK.out _ _ (fun h => absurd rfl h) ?_
          clear HK
          refine anyL_done (by kernel_rfl) ?_
          refine HVIA.out _ _ ⟨W0.heap.size + p1.os.size + 1, W0.heap.size + p1.os.size, mu, rad, t2 + 1 + 1, by kernel_rfl, ⟨mu0, mu1⟩, ⟨rad0, rad1⟩, by omega, ⟨by omega, by omega, by omega⟩, (by repeat (first | with_reducible exact HW0.out.1 | with_reducible exact Up.refl _ | with_reducible apply Up.plus | with_reducible apply Up.ext | with_reducible apply Up.alloc | with_reducible apply Up.drew | (with_reducible refine Up.setCell ?_ (by simp <;> omega) _))), (by repeat (first | with_reducible exact HW0.out.2.1 | with_reducible apply Box.ext | with_reducible apply Box.alloc | with_reducible apply Box.drew | with_reducible apply Box.two1 | (with_reducible refine Box.other ?_ (by omega) _ _))), (by repeat (first | with_reducible exact HW0.out.2.2.1 | with_reducible apply Box.ext | with_reducible apply Box.alloc | with_reducible apply Box.drew | (with_reducible refine Box.other ?_ (by omega) _ _))), (by repeat (first | with_reducible exact HW0.out.2.2.2 | with_reducible apply Box.ext | with_reducible apply Box.alloc | with_reducible apply Box.drew | (with_reducible refine Box.other ?_ (by omega) _ _))), (by repeat (first | (with_reducible refine Box.set3 (x' := .int .i64 0) (y' := .int .i64 0) (z' := .slice none 0 0) ?_) | (with_reducible refine Box.mk ?_; simp; done) | with_reducible apply Box.ext | with_reducible apply Box.alloc | with_reducible apply Box.drew | (with_reducible refine Box.other ?_ (by omega) _ _))), (by repeat (first | (with_reducible refine Box.set3 (x' := .int .i64 0) (y' := .int .i64 0) (z' := .slice none 0 0) ?_) | (with_reducible refine Box.mk ?_; simp; done) | with_reducible apply Box.ext | with_reducible apply Box.alloc | with_reducible apply Box.drew | (with_reducible refine Box.other ?_ (by omega) _ _)))⟩
    · go_wp2
      refine HK.out _ _ (fun _ => (by repeat (first | with_reducible exact HW0.out.2.2.1 | with_reducible apply Box.ext | with_reducible apply Box.alloc | with_reducible apply Box.drew | (with_reducible refine Box.other ?_ (by omega) _ _)))) ?_
      clear HK
      refine anyL_two (i := 1) (j := 7) (by kernel_rfl) rfl rfl (fun K HK => ?_) (fun K HK => ?_)
      · go_wp2_with fail
        go_at_call 12
        refine (KR1.out t2 _ (by repeat (first | with_reducible exact HW0.out.1 | with_reducible exact Up.refl _ | with_reducible apply Up.plus | with_reducible apply Up.ext | with_reducible apply Up.alloc | with_reducible apply Up.drew | (with_reducible refine Up.setCell ?_ (by simp <;> omega) _))) (by repeat (first | with_reducible exact HW0.out.2.1 | with_reducible apply Box.ext | with_reducible apply Box.alloc | with_reducible apply Box.drew | with_reducible apply Box.two1 | (with_reducible refine Box.other ?_ (by omega) _ _))) (by omega) (by omega)).mono ?_
        rintro _ _ ⟨mu, p1, mu0, mu1, rfl, rfl⟩
        go_wp2
        refine HK.out _ _ (fun _ => (by repeat (first | with_reducible exact HW0.out.2.2.1 | with_reducible apply Box.ext | with_reducible apply Box.alloc | with_reducible apply Box.drew | (with_reducible refine Box.other ?_ (by omega) _ _)))) ?_
        clear HK
        refine anyL_two (i := 3) (j := 7) (by kernel_rfl) rfl rfl (fun K HK => ?_) (fun K HK => ?_)
        · go_wp2_with fail
          go_at_call 12
          refine (KR2.out (t2 + 1) _ (by repeat (first | with_reducible exact HW0.out.1 | with_reducible exact Up.refl _ | with_reducible apply Up.plus | with_reducible apply Up.ext | with_reducible apply Up.alloc | with_reducible apply Up.drew | (with_reducible refine Up.setCell ?_ (by simp <;> omega) _))) (by repeat (first | with_reducible exact HW0.out.2.1 | with_reducible apply Box.ext | with_reducible apply Box.alloc | with_reducible apply Box.drew | with_reducible apply Box.two1 | (with_reducible refine Box.other ?_ (by omega) _ _))) (by omega) (by omega)).mono ?_
          rintro _ _ ⟨rad, p2, rad0, rad1, rfl, rfl⟩
          go_wp2
          refine HK.out _ _ (fun _ => (by repeat (first | with_reducible exact HW0.out.2.2.1 | with_reducible apply Box.ext | with_reducible apply Box.alloc | with_reducible apply Box.drew | (with_reducible refine Box.other ?_ (by omega) _ _)))) ?_
          clear HK
          refine anyL_take 6 (v := (.agg #[.int .i64 mu, .int .i64 rad, .slice (some ⟨W0.heap.size, 0, none⟩) 1 1])) rfl (by kernel_rfl) (fun _ _ _ h => h) (.inl ⟨rfl, fun W hW => ?_⟩) (by repeat (first | with_reducible exact HW0.out.2.2.1 | with_reducible apply Box.ext | with_reducible apply Box.alloc | with_reducible apply Box.drew | (with_reducible refine Box.other ?_ (by omega) _ _))) ?_
          · simp [go_sem]
          simp only [Act.put, List.setIfInBounds_toArray, List.set_cons_zero, List.set_cons_succ]
          refine anyL_one (i := 7) (by kernel_rfl) rfl (fun K HK => ?_)
          go_wp2
          refine HK.out _ _ (fun _ => (by repeat (first | with_reducible exact HW0.out.2.2.1 | with_reducible apply Box.ext | with_reducible apply Box.alloc | with_reducible apply Box.drew | (with_reducible refine Box.other ?_ (by omega) _ _)))) ?_
          clear HK
          refine anyL_one (i := 8) (by kernel_rfl) rfl (fun K HK => ?_)
          go_wp2
          refine HK.out _ _ (fun h => absurd rfl h) ?_
          clear HK
          refine anyL_done (by kernel_rfl) ?_
          refine HVIA.out _ _ ⟨W0.heap.size, W0.heap.size + 1 + (p1.plus p2).os.size, mu, rad, t2 + 1 + 1, by kernel_rfl, ⟨mu0, mu1⟩, ⟨rad0, rad1⟩, by omega, ⟨by omega, by omega, by omega⟩, (by repeat (first | with_reducible exact HW0.out.1 | with_reducible exact Up.refl _ | with_reducible apply Up.plus | with_reducible apply Up.ext | with_reducible apply Up.alloc | with_reducible apply Up.drew | (with_reducible refine Up.setCell ?_ (by simp <;> omega) _))), (by repeat (first | with_reducible exact HW0.out.2.1 | with_reducible apply Box.ext | with_reducible apply Box.alloc | with_reducible apply Box.drew | with_reducible apply Box.two1 | (with_reducible refine Box.other ?_ (by omega) _ _))), (by repeat (first | with_reducible exact HW0.out.2.2.1 | with_reducible apply Box.ext | with_reducible apply Box.alloc | with_reducible apply Box.drew | (with_reducible refine Box.other ?_ (by omega) _ _))), (by repeat (first | with_reducible exact HW0.out.2.2.2 | with_reducible apply Box.ext | with_reducible apply Box.alloc | with_reducible apply Box.drew | (with_reducible refine Box.other ?_ (by omega) _ _))), (by repeat (first | (with_reducible refine Box.set3 (x' := .int .i64 0) (y' := .int .i64 0) (z' := .slice none 0 0) ?_) | (with_reducible refine Box.mk ?_; simp; done) | with_reducible apply Box.ext | with_reducible apply Box.alloc | with_reducible apply Box.drew | (with_reducible refine Box.other ?_ (by omega) _ _))), (by repeat (first | (with_reducible refine Box.set3 (x' := .int .i64 0) (y' := .int .i64 0) (z' := .slice none 0 0) ?_) | (with_reducible refine Box.mk ?_; simp; done) | with_reducible apply Box.ext | with_reducible apply Box.alloc | with_reducible apply Box.drew | (with_reducible refine Box.other ?_ (by omega) _ _)))⟩
        · go_wp2
          refine HK.out _ _ (fun _ => (by repeat (first | with_reducible exact HW0.out.2.2.1 | with_reducible apply Box.ext | with_reducible apply Box.alloc | with_reducible apply Box.drew | (with_reducible refine Box.other ?_ (by omega) _ _)))) ?_
          clear HK
          refine anyL_one (i := 3) (by kernel_rfl) rfl (fun K HK => ?_)
          go_wp2_with fail
          go_at_call 12
          refine (KR2.out (t2 + 1) _ (by repeat (first | with_reducible exact HW0.out.1 | with_reducible exact Up.refl _ | with_reducible apply Up.plus | with_reducible apply Up.ext | with_reducible apply Up.alloc | with_reducible apply Up.drew | (with_reducible refine Up.setCell ?_ (by simp <;> omega) _))) (by repeat (first | with_reducible exact HW0.out.2.1 | with_reducible apply Box.ext | with_reducible apply Box.alloc | with_reducible apply Box.drew | with_reducible apply Box.two1 | (with_reducible refine Box.other ?_ (by omega) _ _))) (by omega) (by omega)).mono ?_
          rintro _ _ ⟨rad, p2, rad0, rad1, rfl, rfl⟩
          go_wp2
          refine HK.out _ _ (fun _ => (by repeat (first | with_reducible exact HW0.out.2.2.1 | with_reducible apply Box.ext | with_reducible apply Box.alloc | with_reducible apply Box.drew | (with_reducible refine Box.other ?_ (by omega) _ _)))) ?_
          clear HK
          refine anyL_take 6 (v := (.agg #[.int .i64 mu, .int .i64 rad, .slice (some ⟨W0.heap.size, 0, none⟩) 1 1])) rfl (by kernel_rfl) (fun _ _ _ h => h) (.inl ⟨rfl, fun W hW => ?_⟩) (by repeat (first | with_reducible exact HW0.out.2.2.1 | with_reducible apply Box.ext | with_reducible apply Box.alloc | with_reducible apply Box.drew | (with_reducible refine Box.other ?_ (by omega) _ _))) ?_
          · simp [go_sem]
          simp only [Act.put, List.setIfInBounds_toArray, List.set_cons_zero, List.set_cons_succ]
          refine anyL_one (i := 8) (by kernel_rfl) rfl (fun K HK => ?_)
          go_wp2
          refine HK.out _ _ (fun h => absurd rfl h) ?_
          clear HK
          refine anyL_done (by kernel_rfl) ?_
          refine HVIA.out _ _ ⟨W0.heap.size, W0.heap.size + 1 + p1.os.size, mu, rad, t2 + 1 + 1, by kernel_rfl, ⟨mu0, mu1⟩, ⟨rad0, rad1⟩, by omega, ⟨by omega, by omega, by omega⟩, (by repeat (first | with_reducible exact HW0.out.1 | with_reducible exact Up.refl _ | with_reducible apply Up.plus | with_reducible apply Up.ext | with_reducible apply Up.alloc | with_reducible apply Up.drew | (with_reducible refine Up.setCell ?_ (by simp <;> omega) _))), (by repeat (first | with_reducible exact HW0.out.2.1 | with_reducible apply Box.ext | with_reducible apply Box.alloc | with_reducible apply Box.drew | with_reducible apply Box.two1 | (with_reducible refine Box.other ?_ (by omega) _ _))), (by repeat (first | with_reducible exact HW0.out.2.2.1 | with_reducible apply Box.ext | with_reducible apply Box.alloc | with_reducible apply Box.drew | (with_reducible refine Box.other ?_ (by omega) _ _))), (by repeat (first | with_reducible exact HW0.out.2.2.2 | with_reducible apply Box.ext | with_reducible apply Box.alloc | with_reducible apply Box.drew | (with_reducible refine Box.other ?_ (by omega) _ _))), (by repeat (first | (with_reducible refine Box.set3 (x' := .int .i64 0) (y' := .int .i64 0) (z' := .slice none 0 0) ?_) | (with_reducible refine Box.mk ?_; simp; done) | with_reducible apply Box.ext | with_reducible apply Box.alloc | with_reducible apply Box.drew | (with_reducible refine Box.other ?_ (by omega) _ _))), (by repeat (first | (with_reducible refine Box.set3 (x' := .int .i64 0) (y' := .int .i64 0) (z' := .slice none 0 0) ?_) | (with_reducible refine Box.mk ?_; simp; done) | with_reducible apply Box.ext | with_reducible apply Box.alloc | with_reducible apply Box.drew | (with_reducible refine Box.other ?_ (by omega) _ _)))⟩
      · go_wp2
        refine HK.out _ _ (fun _ => (by repeat (first | with_reducible exact HW0.out.2.2.1 | with_reducible apply Box.ext | with_reducible apply Box.alloc | with_reducible apply Box.drew | (with_reducible refine Box.other ?_ (by omega) _ _)))) ?_
        clear HK
        refine anyL_one (i := 1) (by kernel_rfl) rfl (fun K HK => ?_)
        go_wp2_with fail
        go_at_call 12
        refine (KR1.out t2 _ (by repeat (first | with_reducible exact HW0.out.1 | with_reducible exact Up.refl _ | with_reducible apply Up.plus | with_reducible apply Up.ext | with_reducible apply Up.alloc | with_reducible apply Up.drew | (with_reducible refine Up.setCell ?_ (by simp <;> omega) _))) (by repeat (first | with_reducible exact HW0.out.2.1 | with_reducible apply Box.ext | with_reducible apply Box.alloc | with_reducible apply Box.drew | with_reducible apply Box.two1 | (with_reducible refine Box.other ?_ (by omega) _ _))) (by omega) (by omega)).mono ?_
        rintro _ _ ⟨mu, p1, mu0, mu1, rfl, rfl⟩
        go_wp2
        refine HK.out _ _ (fun _ => (by repeat (first | with_reducible exact HW0.out.2.2.1 | with_reducible apply Box.ext | with_reducible apply Box.alloc | with_reducible apply Box.drew | (with_reducible refine Box.other ?_ (by omega) _ _)))) ?_
        clear HK
        refine anyL_one (i := 3) (by kernel_rfl) rfl (fun K HK => ?_)
        go_wp2_with fail
        go_at_call 12
        refine (KR2.out (t2 + 1) _ (by repeat (first | with_reducible exact HW0.out.1 | with_reducible exact Up.refl _ | with_reducible apply Up.plus | with_reducible apply Up.ext | with_reducible apply Up.alloc | with_reducible apply Up.drew | (with_reducible refine Up.setCell ?_ (by simp <;> omega) _))) (by repeat (first | with_reducible exact HW0.out.2.1 | with_reducible apply Box.ext | with_reducible apply Box.alloc | with_reducible apply Box.drew | with_reducible apply Box.two1 | (with_reducible refine Box.other ?_ (by omega) _ _))) (by omega) (by omega)).mono ?_
        rintro _ _ ⟨rad, p2, rad0, rad1, rfl, rfl⟩
        go_wp2
        refine HK.out _ _ (fun _ => (by repeat (first | with_reducible exact HW0.out.2.2.1 | with_reducible apply Box.ext | with_reducible apply Box.alloc | with_reducible apply Box.drew | (with_reducible refine Box.other ?_ (by omega) _ _)))) ?_
        clear HK
        refine anyL_take 6 (v := (.agg #[.int .i64 mu, .int .i64 rad, .slice (some ⟨W0.heap.size, 0, none⟩) 1 1])) rfl (by kernel_rfl) (fun _ _ _ h => h) (.inl ⟨rfl, fun W hW => ?_⟩) (by repeat (first | with_reducible exact HW0.out.2.2.1 | with_reducible apply Box.ext | with_reducible apply Box.alloc | with_reducible apply Box.drew | (with_reducible refine Box.other ?_ (by omega) _ _))) ?_
        · simp [go_sem]
        simp only [Act.put, List.setIfInBounds_toArray, List.set_cons_zero, List.set_cons_succ]
        refine anyL_one (i := 8) (by kernel_rfl) rfl (fun K HK => ?_)
        go_wp2
        refine HK.out _ _ (fun h => absurd rfl h) ?_
        clear HK
        refine anyL_done (by kernel_rfl) ?_
        refine HVIA.out _ _ ⟨W0.heap.size, W0.heap.size + 1, mu, rad, t2 + 1 + 1, by kernel_rfl, ⟨mu0, mu1⟩, ⟨rad0, rad1⟩, by omega, ⟨by omega, by omega, by omega⟩, (by repeat (first | with_reducible exact HW0.out.1 | with_reducible exact Up.refl _ | with_reducible apply Up.plus | with_reducible apply Up.ext | with_reducible apply Up.alloc | with_reducible apply Up.drew | (with_reducible refine Up.setCell ?_ (by simp <;> omega) _))), (by repeat (first | with_reducible exact HW0.out.2.1 | with_reducible apply Box.ext | with_reducible apply Box.alloc | with_reducible apply Box.drew | with_reducible apply Box.two1 | (with_reducible refine Box.other ?_ (by omega) _ _))), (by repeat (first | with_reducible exact HW0.out.2.2.1 | with_reducible apply Box.ext | with_reducible apply Box.alloc | with_reducible apply Box.drew | (with_reducible refine Box.other ?_ (by omega) _ _))), (by repeat (first | with_reducible exact HW0.out.2.2.2 | with_reducible apply Box.ext | with_reducible apply Box.alloc | with_reducible apply Box.drew | (with_reducible refine Box.other ?_ (by omega) _ _))), (by repeat (first | (with_reducible refine Box.set3 (x' := .int .i64 0) (y' := .int .i64 0) (z' := .slice none 0 0) ?_) | (with_reducible refine Box.mk ?_; simp; done) | with_reducible apply Box.ext | with_reducible apply Box.alloc | with_reducible apply Box.drew | (with_reducible refine Box.other ?_ (by omega) _ _))), (by repeat (first | (with_reducible refine Box.set3 (x' := .int .i64 0) (y' := .int .i64 0) (z' := .slice none 0 0) ?_) | (with_reducible refine Box.mk ?_; simp; done) | with_reducible apply Box.ext | with_reducible apply Box.alloc | with_reducible apply Box.drew | (with_reducible refine Box.other ?_ (by omega) _ _)))⟩
    · go_wp2
      refine HK.out _ _ (fun _ => (by repeat (first | with_reducible exact HW0.out.2.2.1 | with_reducible apply Box.ext | with_reducible apply Box.alloc | with_reducible apply Box.drew | (with_reducible refine Box.other ?_ (by omega) _ _)))) ?_
      clear HK
      refine anyL_two (i := 1) (j := 5) (by kernel_rfl) rfl rfl (fun K HK => ?_) (fun K HK => ?_)
      · go_wp2_with fail
        go_at_call 12
        refine (KR1.out t2 _ (by repeat (first | with_reducible exact HW0.out.1 | with_reducible exact Up.refl _ | with_reducible apply Up.plus | with_reducible apply Up.ext | with_reducible apply Up.alloc | with_reducible apply Up.drew | (with_reducible refine Up.setCell ?_ (by simp <;> omega) _))) (by repeat (first | with_reducible exact HW0.out.2.1 | with_reducible apply Box.ext | with_reducible apply Box.alloc | with_reducible apply Box.drew | with_reducible apply Box.two1 | (with_reducible refine Box.other ?_ (by omega) _ _))) (by omega) (by omega)).mono ?_
        rintro _ _ ⟨mu, p1, mu0, mu1, rfl, rfl⟩
        go_wp2
        refine HK.out _ _ (fun _ => (by repeat (first | with_reducible exact HW0.out.2.2.1 | with_reducible apply Box.ext | with_reducible apply Box.alloc | with_reducible apply Box.drew | (with_reducible refine Box.other ?_ (by omega) _ _)))) ?_
        clear HK
        refine anyL_two (i := 3) (j := 5) (by kernel_rfl) rfl rfl (fun K HK => ?_) (fun K HK => ?_)
        · go_wp2_with fail
          go_at_call 12
          refine (KR2.out (t2 + 1) _ (by repeat (first | with_reducible exact HW0.out.1 | with_reducible exact Up.refl _ | with_reducible apply Up.plus | with_reducible apply Up.ext | with_reducible apply Up.alloc | with_reducible apply Up.drew | (with_reducible refine Up.setCell ?_ (by simp <;> omega) _))) (by repeat (first | with_reducible exact HW0.out.2.1 | with_reducible apply Box.ext | with_reducible apply Box.alloc | with_reducible apply Box.drew | with_reducible apply Box.two1 | (with_reducible refine Box.other ?_ (by omega) _ _))) (by omega) (by omega)).mono ?_
          rintro _ _ ⟨rad, p2, rad0, rad1, rfl, rfl⟩
          go_wp2
          refine HK.out _ _ (fun _ => (by repeat (first | with_reducible exact HW0.out.2.2.1 | with_reducible apply Box.ext | with_reducible apply Box.alloc | with_reducible apply Box.drew | (with_reducible refine Box.other ?_ (by omega) _ _)))) ?_
          clear HK
          refine anyL_one (i := 5) (by kernel_rfl) rfl (fun K HK => ?_)
          go_wp2
          refine HK.out _ _ (fun _ => (by repeat (first | with_reducible exact HW0.out.2.2.1 | with_reducible apply Box.ext | with_reducible apply Box.alloc | with_reducible apply Box.drew | (with_reducible refine Box.other ?_ (by omega) _ _)))) ?_
          clear HK
          refine anyL_take 6 (v := (.agg #[.int .i64 mu, .int .i64 rad, .slice (some ⟨W0.heap.size + 1 + (p1.plus p2).os.size, 0, none⟩) 1 1])) rfl (by kernel_rfl) (fun _ _ _ h => h) (.inl ⟨rfl, fun W hW => ?_⟩) (by repeat (first | with_reducible exact HW0.out.2.2.1 | with_reducible apply Box.ext | with_reducible apply Box.alloc | with_reducible apply Box.drew | (with_reducible refine Box.other ?_ (by omega) _ _))) ?_
          · simp [go_sem]
          simp only [Act.put, List.setIfInBounds_toArray, List.set_cons_zero, List.set_cons_succ]
          refine anyL_one (i := 8) (by kernel_rfl) rfl (fun K HK => ?_)
          go_wp2
          refine HK.out _ _ (fun h => absurd rfl h) ?_
          clear HK
          refine anyL_done (by kernel_rfl) ?_
          refine HVIA.out _ _ ⟨W0.heap.size + 1 + (p1.plus p2).os.size, W0.heap.size, mu, rad, t2 + 1 + 1, by kernel_rfl, ⟨mu0, mu1⟩, ⟨rad0, rad1⟩, by omega, ⟨by omega, by omega, by omega⟩, (by repeat (first | with_reducible exact HW0.out.1 | with_reducible exact Up.refl _ | with_reducible apply Up.plus | with_reducible apply Up.ext | with_reducible apply Up.alloc | with_reducible apply Up.drew | (with_reducible refine Up.setCell ?_ (by simp <;> omega) _))), (by repeat (first | with_reducible exact HW0.out.2.1 | with_reducible apply Box.ext | with_reducible apply Box.alloc | with_reducible apply Box.drew | with_reducible apply Box.two1 | (with_reducible refine Box.other ?_ (by omega) _ _))), (by repeat (first | with_reducible exact HW0.out.2.2.1 | with_reducible apply Box.ext | with_reducible apply Box.alloc | with_reducible apply Box.drew | (with_reducible refine Box.other ?_ (by omega) _ _))), (by repeat (first | with_reducible exact HW0.out.2.2.2 | with_reducible apply Box.ext | with_reducible apply Box.alloc | with_reducible apply Box.drew | (with_reducible refine Box.other ?_ (by omega) _ _))), (by repeat (first | (with_reducible refine Box.set3 (x' := .int .i64 0) (y' := .int .i64 0) (z' := .slice none 0 0) ?_) | (with_reducible refine Box.mk ?_; simp; done) | with_reducible apply Box.ext | with_reducible apply Box.alloc | with_reducible apply Box.drew | (with_reducible refine Box.other ?_ (by omega) _ _))), (by repeat (first | (with_reducible refine Box.set3 (x' := .int .i64 0) (y' := .int .i64 0) (z' := .slice none 0 0) ?_) | (with_reducible refine Box.mk ?_; simp; done) | with_reducible apply Box.ext | with_reducible apply Box.alloc | with_reducible apply Box.drew | (with_reducible refine Box.other ?_ (by omega) _ _)))⟩
        · go_wp2
          refine HK.out _ _ (fun _ => (by repeat (first | with_reducible exact HW0.out.2.2.1 | with_reducible apply Box.ext | with_reducible apply Box.alloc | with_reducible apply Box.drew | (with_reducible refine Box.other ?_ (by omega) _ _)))) ?_
          clear HK
          refine anyL_one (i := 3) (by kernel_rfl) rfl (fun K HK => ?_)
          go_wp2_with fail
          go_at_call 12
          refine (KR2.out (t2 + 1) _ (by repeat (first | with_reducible exact HW0.out.1 | with_reducible exact Up.refl _ | with_reducible apply Up.plus | with_reducible apply Up.ext | with_reducible apply Up.alloc | with_reducible apply Up.drew | (with_reducible refine Up.setCell ?_ (by simp <;> omega) _))) (by repeat (first | with_reducible exact HW0.out.2.1 | with_reducible apply Box.ext | with_reducible apply Box.alloc | with_reducible apply Box.drew | with_reducible apply Box.two1 | (with_reducible refine Box.other ?_ (by omega) _ _))) (by omega) (by omega)).mono ?_
          rintro _ _ ⟨rad, p2, rad0, rad1, rfl, rfl⟩
          go_wp2
          refine HK.out _ _ (fun _ => (by repeat (first | with_reducible exact HW0.out.2.2.1 | with_reducible apply Box.ext | with_reducible apply Box.alloc | with_reducible apply Box.drew | (with_reducible refine Box.other ?_ (by omega) _ _)))) ?_
          clear HK
          refine anyL_take 6 (v := (.agg #[.int .i64 mu, .int .i64 rad, .slice (some ⟨W0.heap.size + 1 + p1.os.size, 0, none⟩) 1 1])) rfl (by kernel_rfl) (fun _ _ _ h => h) (.inl ⟨rfl, fun W hW => ?_⟩) (by repeat (first | with_reducible exact HW0.out.2.2.1 | with_reducible apply Box.ext | with_reducible apply Box.alloc | with_reducible apply Box.drew | (with_reducible refine Box.other ?_ (by omega) _ _))) ?_
          · simp [go_sem]
          simp only [Act.put, List.setIfInBounds_toArray, List.set_cons_zero, List.set_cons_succ]
          refine anyL_one (i := 8) (by kernel_rfl) rfl (fun K HK => ?_)
          go_wp2
          refine HK.out _ _ (fun h => absurd rfl h) ?_
          clear HK
          refine anyL_done (by kernel_rfl) ?_
          refine HVIA.out _ _ ⟨W0.heap.size + 1 + p1.os.size, W0.heap.size, mu, rad, t2 + 1 + 1, by kernel_rfl, ⟨mu0, mu1⟩, ⟨rad0, rad1⟩, by omega, ⟨by omega, by omega, by omega⟩, (by repeat (first | with_reducible exact HW0.out.1 | with_reducible exact Up.refl _ | with_reducible apply Up.plus | with_reducible apply Up.ext | with_reducible apply Up.alloc | with_reducible apply Up.drew | (with_reducible refine Up.setCell ?_ (by simp <;> omega) _))), (by repeat (first | with_reducible exact HW0.out.2.1 | with_reducible apply Box.ext | with_reducible apply Box.alloc | with_reducible apply Box.drew | with_reducible apply Box.two1 | (with_reducible refine Box.other ?_ (by omega) _ _))), (by repeat (first | with_reducible exact HW0.out.2.2.1 | with_reducible apply Box.ext | with_reducible apply Box.alloc | with_reducible apply Box.drew | (with_reducible refine Box.other ?_ (by omega) _ _))), (by repeat (first | with_reducible exact HW0.out.2.2.2 | with_reducible apply Box.ext | with_reducible apply Box.alloc | with_reducible apply Box.drew | (with_reducible refine Box.other ?_ (by omega) _ _))), (by repeat (first | (with_reducible refine Box.set3 (x' := .int .i64 0) (y' := .int .i64 0) (z' := .slice none 0 0) ?_) | (with_reducible refine Box.mk ?_; simp; done) | with_reducible apply Box.ext | with_reducible apply Box.alloc | with_reducible apply Box.drew | (with_reducible refine Box.other ?_ (by omega) _ _))), (by repeat (first | (with_reducible refine Box.set3 (x' := .int .i64 0) (y' := .int .i64 0) (z' := .slice none 0 0) ?_) | (with_reducible refine Box.mk ?_; simp; done) | with_reducible apply Box.ext | with_reducible apply Box.alloc | with_reducible apply Box.drew | (with_reducible refine Box.other ?_ (by omega) _ _)))⟩
      · go_wp2
        refine HK.out _ _ (fun _ => (by repeat (first | with_reducible exact HW0.out.2.2.1 | with_reducible apply Box.ext | with_reducible apply Box.alloc | with_reducible apply Box.drew | (with_reducible refine Box.other ?_ (by omega) _ _)))) ?_
        clear HK
        refine anyL_one (i := 1) (by kernel_rfl) rfl (fun K HK => ?_)
        go_wp2_with fail
        go_at_call 12
        refine (KR1.out t2 _ (by repeat (first | with_reducible exact HW0.out.1 | with_reducible exact Up.refl _ | with_reducible apply Up.plus | with_reducible apply Up.ext | with_reducible apply Up.alloc | with_reducible apply Up.drew | (with_reducible refine Up.setCell ?_ (by simp <;> omega) _))) (by repeat (first | with_reducible exact HW0.out.2.1 | with_reducible apply Box.ext | with_reducible apply Box.alloc | with_reducible apply Box.drew | with_reducible apply Box.two1 | (with_reducible refine Box.other ?_ (by omega) _ _))) (by omega) (by omega)).mono ?_
        rintro _ _ ⟨mu, p1, mu0, mu1, rfl, rfl⟩
        go_wp2
        refine HK.out _ _ (fun _ => (by repeat (first | with_reducible exact HW0.out.2.2.1 | with_reducible apply Box.ext | with_reducible apply Box.alloc | with_reducible apply Box.drew | (with_reducible refine Box.other ?_ (by omega) _ _)))) ?_
        clear HK
        refine anyL_one (i := 3) (by kernel_rfl) rfl (fun K HK => ?_)
        go_wp2_with fail
        go_at_call 12
        refine (KR2.out (t2 + 1) _ (by repeat (first | with_reducible exact HW0.out.1 | with_reducible exact Up.refl _ | with_reducible apply Up.plus | with_reducible apply Up.ext | with_reducible apply Up.alloc | with_reducible apply Up.drew | (with_reducible refine Up.setCell ?_ (by simp <;> omega) _))) (by repeat (first | with_reducible exact HW0.out.2.1 | with_reducible apply Box.ext | with_reducible apply Box.alloc | with_reducible apply Box.drew | with_reducible apply Box.two1 | (with_reducible refine Box.other ?_ (by omega) _ _))) (by omega) (by omega)).mono ?_
        rintro _ _ ⟨rad, p2, rad0, rad1, rfl, rfl⟩
        go_wp2
        refine HK.out _ _ (fun _ => (by repeat (first | with_reducible exact HW0.out.2.2.1 | with_reducible apply Box.ext | with_reducible apply Box.alloc | with_reducible apply Box.drew | (with_reducible refine Box.other ?_ (by omega) _ _)))) ?_
        clear HK
        refine anyL_take 6 (v := (.agg #[.int .i64 mu, .int .i64 rad, .slice (some ⟨W0.heap.size + 1, 0, none⟩) 1 1])) rfl (by kernel_rfl) (fun _ _ _ h => h) (.inl ⟨rfl, fun W hW => ?_⟩) (by repeat (first | with_reducible exact HW0.out.2.2.1 | with_reducible apply Box.ext | with_reducible apply Box.alloc | with_reducible apply Box.drew | (with_reducible refine Box.other ?_ (by omega) _ _))) ?_
        · simp [go_sem]
        simp only [Act.put, List.setIfInBounds_toArray, List.set_cons_zero, List.set_cons_succ]
        refine anyL_one (i := 8) (by kernel_rfl) rfl (fun K HK => ?_)
        go_wp2
        refine HK.out _ _ (fun h => absurd rfl h) ?_
        clear HK
        refine anyL_done (by kernel_rfl) ?_
        refine HVIA.out _ _ ⟨W0.heap.size + 1, W0.heap.size, mu, rad, t2 + 1 + 1, by kernel_rfl, ⟨mu0, mu1⟩, ⟨rad0, rad1⟩, by omega, ⟨by omega, by omega, by omega⟩, (by repeat (first | with_reducible exact HW0.out.1 | with_reducible exact Up.refl _ | with_reducible apply Up.plus | with_reducible apply Up.ext | with_reducible apply Up.alloc | with_reducible apply Up.drew | (with_reducible refine Up.setCell ?_ (by simp <;> omega) _))), (by repeat (first | with_reducible exact HW0.out.2.1 | with_reducible apply Box.ext | with_reducible apply Box.alloc | with_reducible apply Box.drew | with_reducible apply Box.two1 | (with_reducible refine Box.other ?_ (by omega) _ _))), (by repeat (first | with_reducible exact HW0.out.2.2.1 | with_reducible apply Box.ext | with_reducible apply Box.alloc | with_reducible apply Box.drew | (with_reducible refine Box.other ?_ (by omega) _ _))), (by repeat (first | with_reducible exact HW0.out.2.2.2 | with_reducible apply Box.ext | with_reducible apply Box.alloc | with_reducible apply Box.drew | (with_reducible refine Box.other ?_ (by omega) _ _))), (by repeat (first | (with_reducible refine Box.set3 (x' := .int .i64 0) (y' := .int .i64 0) (z' := .slice none 0 0) ?_) | (with_reducible refine Box.mk ?_; simp; done) | with_reducible apply Box.ext | with_reducible apply Box.alloc | with_reducible apply Box.drew | (with_reducible refine Box.other ?_ (by omega) _ _))), (by repeat (first | (with_reducible refine Box.set3 (x' := .int .i64 0) (y' := .int .i64 0) (z' := .slice none 0 0) ?_) | (with_reducible refine Box.mk ?_; simp; done) | with_reducible apply Box.ext | with_reducible apply Box.alloc | with_reducible apply Box.drew | (with_reducible refine Box.other ?_ (by omega) _ _)))⟩
  · rintro a' W ⟨T, G, mu, rad, t, rfl, ⟨mu0, mu1⟩, ⟨rad0, rad1⟩, ⟨tt0, tt1⟩, ⟨hT, hG, hTG⟩, hu, br, bc, bd, bT, bG⟩
    simp only [List.setIfInBounds_toArray, List.set_cons_zero, List.set_cons_succ]
    clear c0 c1 hl1 hl2 HW0
    have lT := bT.lt
    have lG := bG.lt
    have b0 := bG.cell 0 rfl
    have b1 := bG.cell 1 rfl
    have b2 := bG.cell 2 rfl
    have HX := hide (And.intro hu (And.intro br (And.intro bc (And.intro bd (And.intro bT bG)))))
    clear hu br bc bd bT bG
    go_wp2_with fail
    obtain ⟨M, hM⟩ : ∃ M, W.heap.size = M := ⟨_, rfl⟩
    rw [hM]
    refine forgetW (fun V => Up w V ∧ Box V w.heap.size #[.slice sa sn sc, .int .i64 t] 81 ∧ Box V N #[.int .i64 (cx), .int .i64 (cy)] 26 ∧ Box V (N + 1) #[.int .i64 (dx), .int .i64 (dy)] 26 ∧ Box V T #[.int .i64 (cx), .int .i64 (cy)] 26 ∧ Box V G #[.int .i64 mu, .int .i64 rad, .slice (some ⟨T, 0, none⟩) 1 1] 31 ∧ Box V M #[.int .i64 mu, .int .i64 rad, .slice (some ⟨T, 0, none⟩) 1 1] 31 ∧ Box V (M + 1) #[.slice (some ⟨M, 0, none⟩) 1 1, .int .i64 0] 34) ⟨(by repeat (first | with_reducible exact HX.out.1 | with_reducible exact Up.refl _ | with_reducible apply Up.plus | with_reducible apply Up.ext | with_reducible apply Up.alloc | with_reducible apply Up.drew | (with_reducible refine Up.setCell ?_ (by simp <;> omega) _))), (by repeat (first | with_reducible exact HX.out.2.1 | with_reducible apply Box.ext | with_reducible apply Box.alloc | with_reducible apply Box.drew | with_reducible apply Box.two1 | (with_reducible refine Box.other ?_ (by omega) _ _))), (by repeat (first | with_reducible exact HX.out.2.2.1 | with_reducible apply Box.ext | with_reducible apply Box.alloc | with_reducible apply Box.drew | (with_reducible refine Box.other ?_ (by omega) _ _))), (by repeat (first | with_reducible exact HX.out.2.2.2.1 | with_reducible apply Box.ext | with_reducible apply Box.alloc | with_reducible apply Box.drew | (with_reducible refine Box.other ?_ (by omega) _ _))), (by repeat (first | with_reducible exact HX.out.2.2.2.2.1 | with_reducible apply Box.ext | with_reducible apply Box.alloc | with_reducible apply Box.drew | (with_reducible refine Box.other ?_ (by omega) _ _))), (by repeat (first | with_reducible exact HX.out.2.2.2.2.2 | with_reducible apply Box.ext | with_reducible apply Box.alloc | with_reducible apply Box.drew | (with_reducible refine Box.other ?_ (by omega) _ _))), by rw [← hM]; exact (by repeat (first | (with_reducible refine Box.mk ?_; simp; done) | with_reducible apply Box.ext | with_reducible apply Box.alloc | with_reducible apply Box.drew | (with_reducible refine Box.other ?_ (by omega) _ _))), by rw [← hM]; exact (by repeat (first | (with_reducible refine Box.mk ?_; simp; done) | with_reducible apply Box.ext | with_reducible apply Box.alloc | with_reducible apply Box.drew | (with_reducible refine Box.other ?_ (by omega) _ _)))⟩ ?_
    have hTM : T < M := by omega
    have hGM : G < M := by omega
    have hw := HX.out.1.below.size
    clear hM HX b0 b1 b2 lT lG hw
    rintro V ⟨hu, br, bc, bd, bT, bG, bM, bW⟩
    have lc := bc.lt
    have ld := bd.lt
    have lr := br.lt
    have c0 := bc.cell 0 rfl
    have c1 := bc.cell 1 rfl
    have d0 := bd.cell 0 rfl
    have d1 := bd.cell 1 rfl
    have HX := hide (And.intro hu (And.intro br (And.intro bc (And.intro bd (And.intro bT (And.intro bG (And.intro bM bW)))))))
    clear hu br bc bd bT bG bM bW
    ((first | with_reducible refine wp_region_ext2 (by kernel_rfl) (by kernel_rfl) ?_ | refine wp_region_ext (by kernel_rfl) (by kernel_rfl) ?_); (repeat (go_big_quiet_step (fail))); refine wpQuiet_nil ?_; intro _ hw'; obtain ⟨_, hw''⟩ := hw'; subst hw'')
    rename_i pw
    go_wp2_with fail
    go_at_call 12
    refine (KR3.out t _ (by repeat (first | with_reducible exact HX.out.1 | with_reducible exact Up.refl _ | with_reducible apply Up.plus | with_reducible apply Up.ext | with_reducible apply Up.alloc | with_reducible apply Up.drew | (with_reducible refine Up.setCell ?_ (by simp <;> omega) _))) (by repeat (first | with_reducible exact HX.out.2.1 | with_reducible apply Box.ext | with_reducible apply Box.alloc | with_reducible apply Box.drew | with_reducible apply Box.two1 | (with_reducible refine Box.other ?_ (by omega) _ _))) (by omega) (by omega)).mono ?_
    rintro _ _ ⟨e1, pe1, e10, e11, rfl, rfl⟩
    go_wp2_with fail
    go_at_call 12
    refine (KR3.out (t + 1) _ (by repeat (first | with_reducible exact HX.out.1 | with_reducible exact Up.refl _ | with_reducible apply Up.plus | with_reducible apply Up.ext | with_reducible apply Up.alloc | with_reducible apply Up.drew | (with_reducible refine Up.setCell ?_ (by simp <;> omega) _))) (by repeat (first | with_reducible exact HX.out.2.1 | with_reducible apply Box.ext | with_reducible apply Box.alloc | with_reducible apply Box.drew | with_reducible apply Box.two1 | (with_reducible refine Box.other ?_ (by omega) _ _))) (by omega) (by omega)).mono ?_
    rintro _ _ ⟨e2, pe2, e20, e21, rfl, rfl⟩
    go_wp2_with fail
    go_at_call 12
    refine (KR3.out (t + 1 + 1) _ (by repeat (first | with_reducible exact HX.out.1 | with_reducible exact Up.refl _ | with_reducible apply Up.plus | with_reducible apply Up.ext | with_reducible apply Up.alloc | with_reducible apply Up.drew | (with_reducible refine Up.setCell ?_ (by simp <;> omega) _))) (by repeat (first | with_reducible exact HX.out.2.1 | with_reducible apply Box.ext | with_reducible apply Box.alloc | with_reducible apply Box.drew | with_reducible apply Box.two1 | (with_reducible refine Box.other ?_ (by omega) _ _))) (by omega) (by omega)).mono ?_
    rintro _ _ ⟨e3, pe3, e30, e31, rfl, rfl⟩
    go_wp2_with fail
    go_at_call 12
    refine (KR3.out (t + 1 + 1 + 1) _ (by repeat (first | with_reducible exact HX.out.1 | with_reducible exact Up.refl _ | with_reducible apply Up.plus | with_reducible apply Up.ext | with_reducible apply Up.alloc | with_reducible apply Up.drew | (with_reducible refine Up.setCell ?_ (by simp <;> omega) _))) (by repeat (first | with_reducible exact HX.out.2.1 | with_reducible apply Box.ext | with_reducible apply Box.alloc | with_reducible apply Box.drew | with_reducible apply Box.two1 | (with_reducible refine Box.other ?_ (by omega) _ _))) (by omega) (by omega)).mono ?_
    rintro _ _ ⟨e4, pe4, e40, e41, rfl, rfl⟩
    go_wp2_with fail
    go_at_call 13
    refine (xarea_any _ _ _ _ _).mono ?_
    intro pa
    go_wp2_with fail
    generalize (((((pw.plus pe1).plus pe2).plus pe3).plus pe4).plus pa) = pz
    obtain ⟨A, hA⟩ : ∃ A, V.heap.size + pz.os.size = A := ⟨_, rfl⟩
    rw [hA]
    refine forgetW (fun V2 => Up w V2 ∧ Box V2 (N + 1) #[.int .i64 (dx), .int .i64 (dy)] 26 ∧ Box V2 T #[.int .i64 (cx), .int .i64 (cy)] 26 ∧ Box V2 G #[.int .i64 mu, .int .i64 rad, .slice (some ⟨T, 0, none⟩) 1 1] 31 ∧ Box V2 M #[.int .i64 mu, .int .i64 rad, .slice (some ⟨T, 0, none⟩) 1 1] 31 ∧ Box V2 (M + 1) #[.slice (some ⟨M, 0, none⟩) 1 1, .int .i64 0] 34 ∧ Box V2 A #[.int .i64 (cx - dx - e1), .int .i64 (cx - dx + e2), .int .i64 (cy - dy - e3), .int .i64 (cy - dy + e4)] 38) ⟨(by repeat (first | with_reducible exact HX.out.1 | with_reducible exact Up.refl _ | with_reducible apply Up.plus | with_reducible apply Up.ext | with_reducible apply Up.alloc | with_reducible apply Up.drew | (with_reducible refine Up.setCell ?_ (by simp <;> omega) _))), (by repeat (first | with_reducible exact HX.out.2.2.2.1 | with_reducible apply Box.ext | with_reducible apply Box.alloc | with_reducible apply Box.drew | (with_reducible refine Box.other ?_ (by omega) _ _))), (by repeat (first | with_reducible exact HX.out.2.2.2.2.1 | with_reducible apply Box.ext | with_reducible apply Box.alloc | with_reducible apply Box.drew | (with_reducible refine Box.other ?_ (by omega) _ _))), (by repeat (first | with_reducible exact HX.out.2.2.2.2.2.1 | with_reducible apply Box.ext | with_reducible apply Box.alloc | with_reducible apply Box.drew | (with_reducible refine Box.other ?_ (by omega) _ _))), (by repeat (first | with_reducible exact HX.out.2.2.2.2.2.2.1 | with_reducible apply Box.ext | with_reducible apply Box.alloc | with_reducible apply Box.drew | (with_reducible refine Box.other ?_ (by omega) _ _))), (by repeat (first | with_reducible exact HX.out.2.2.2.2.2.2.2 | with_reducible apply Box.ext | with_reducible apply Box.alloc | with_reducible apply Box.drew | (with_reducible refine Box.other ?_ (by omega) _ _))), by rw [← hA]; exact (by repeat (first | (with_reducible refine Box.mk ?_; simp; done) | with_reducible apply Box.ext | with_reducible apply Box.alloc | with_reducible apply Box.drew | (with_reducible refine Box.other ?_ (by omega) _ _)))⟩ ?_
    have hMA : M + 1 < A := by have := HX.out.2.2.2.2.2.2.2.lt; omega
    clear hA HX lc ld lr c0 c1 d0 d1 KR1 KR2 KR3
    rintro V2 ⟨hu, bd, bT, bG, bM, bW, bA⟩
    have GO : ∀ (W' : World) (ar : Ar), Box W' T #[.int .i64 (cx), .int .i64 (cy)] 26 → Box W' M #[.int .i64 mu, .int .i64 rad, .slice (some ⟨T, 0, none⟩) 1 1] 31 → OrdA 1000 ar →
        Gives Try.prog 14 #[.agg #[.slice (some ⟨M, 0, none⟩) 1 1, .int .i64 0], .int .i64 0, .int .i64 3, .agg #[.int .i64 ar.1, .int .i64 ar.2.1, .int .i64 ar.2.2.1, .int .i64 ar.2.2.2]] W' (.tuple #[.agg #[.int .i64 (pullP mu rad (cx, cy) ar).1, .int .i64 (pullP mu rad (cx, cy) ar).2.1, .int .i64 (pullP mu rad (cx, cy) ar).2.2.1, .int .i64 (pullP mu rad (cx, cy) ar).2.2.2], .int .i64 0]) := fun W' ar h1 h2 ho => by
      have v1 : Vecs (fun _ => True) W' (.slice (some ⟨T, 0, none⟩) 1 1) [(cx, cy)] := Vecs.of (K := fun _ => True) (l := [(cx, cy)]) h1 trivial rfl (by simp) (fun i q hq => by
        match i, hq with
        | 0, hq => cases hq; exact ⟨rfl, rfl, ⟨by simp only; omega, by simp only; omega⟩, by simp only; omega, by simp only; omega⟩) 1
      have v2 : Bods (fun _ => True) W' (.slice (some ⟨M, 0, none⟩) 1 1) [⟨mu, rad, [(cx, cy)]⟩] := Bods.of (K := fun _ => True) (l := [⟨mu, rad, [(cx, cy)]⟩]) h2 trivial rfl (by simp) (fun i q hq => by
        match i, hq with
        | 0, hq => cases hq; exact ⟨_, rfl, rfl, rfl, ⟨by simp only; omega, by simp only; omega⟩, ⟨by simp only; omega, by simp only; omega⟩, v1⟩) 1
      have := fOne_any v2 (home := 0) ⟨by decide, by decide⟩ 0 3 ar
      rw [xOne mu0 mu1 rad0 rad1 ⟨cx0, cx1⟩ ⟨cy0, cy1⟩ ho] at this
      exact this
    obtain ⟨n1, n2, n3, n4, hP, hi1, hi2, ⟨s0, s1⟩, ⟨u1, u2, u3⟩, ⟨u4, u5, u6⟩, ⟨u7, u8, u9⟩, ⟨ua, ub, uc⟩⟩ := exact_all (mu := mu) (r := rad) (cx := cx) (cy := cy) (dx := dx) (dy := dy) (e1 := e1) (e2 := e2) (e3 := e3) (e4 := e4) mu0 mu1 rad0 rad1 ⟨cx0, cx1⟩ ⟨cy0, cy1⟩ ⟨dx0, dx1⟩ ⟨dy0, dy1⟩ ⟨e10, e11⟩ ⟨e20, e21⟩ ⟨e30, e31⟩ ⟨e40, e41⟩
    have O1 := fun W' h1 h2 => GO W' (cx - dx, cx - dx, cy - dy, cy - dy) h1 h2 (by unfold OrdA Ord arX arY; simp only; omega)
    have O2 := fun W' h1 h2 => GO W' (cx - dx - e1, cx - dx + e2, cy - dy - e3, cy - dy + e4) h1 h2 (by unfold OrdA Ord arX arY; simp only; omega)
    rw [hP] at O1 hi1 hi2
    generalize pullP mu rad (cx, cy) (cx - dx - e1, cx - dx + e2, cy - dy - e3, cy - dy + e4) = Q at *
    obtain ⟨q1', q2', q3', q4'⟩ := Q
    rw [show max (max 1 (rad * rad)) (dx * dx + dy * dy) = max 1 (max (rad * rad) (dx * dx + dy * dy)) by omega] at s0 s1 u2 u3 u5 u6 u8 u9 ub uc
    obtain ⟨s, hs⟩ : ∃ s, max 1 (max (rad * rad) (dx * dx + dy * dy)) = s := ⟨_, rfl⟩
    rw [hs] at s0 s1 u2 u3 u5 u6 u8 u9 ub uc
    have E1 := hide (fun W => xencl_any u1 u4 mu0 mu1 dx0 dx1 s0 s1 u3 u6 u2 u5 W)
    have E2 := hide (fun W => xencl_any u7 ua mu0 mu1 dy0 dy1 s0 s1 u9 uc u8 ub W)
    have I1 := fun W => xinsidea_any (n1, -n2, n3, -n4) (q1', q2', q3', q4') W
    rw [hi1, hi2] at I1
    have I1 := hide I1
    dsimp only at O1 O2
    have Oh1 := hide O1
    have Oh2 := hide O2
    have r2a := mul_self_nonneg rad
    have r2b := sq_mono rad0 rad1
    have x2a := mul_self_nonneg dx
    have x2b := mul_bd (x := dx) (y := dx) (B := 30) (C := 30) dx0 dx1 dx0 dx1
    have y2a := mul_self_nonneg dy
    have y2b := mul_bd (x := dy) (y := dy) (B := 30) (C := 30) dy0 dy1 dy0 dy1
    simp only [Int.reduceMul, Int.reduceNeg] at r2b x2b y2b
    have HY := hide (And.intro hu (And.intro bd (And.intro bT (And.intro bG (And.intro bM (And.intro bW bA))))))
    have KO1 := hide (fun W' (h : Up V2 W') => Oh1.out W' (bT.up h) (bM.up h))
    have f0 := bW.cell 0 rfl
    have f1 := bW.cell 1 rfl
    have lW := bW.lt
    clear GO O1 O2 hP hi1 hi2 u1 u2 u3 u4 u5 u6 u7 u8 u9 ua ub uc hu bd bT bG bM bW bA
    refine wp_region_floatz (al := [(8, 11, #[.int .i64 (0), .int .i64 (0), .int .i64 (0), .int .i64 (0)], 38)]) (mv := fun _ => false) 7 [9, 10] [0, 1, 2, 3, 4, 5, 6, 7] (by kernel_rfl) (by kernel_rfl) rfl (fun _ => rfl) (fun _ _ _ _ h => h) (makes1 ⟨_, rfl, rfl, fun _ => rfl, fun _ _ => by simp [go_sem]⟩) (cls_ext _) (by first | exact drew_in2 _ _ | exact drew_in _) (Nat.le_refl _) ?_
    simp only [withOps, List.filterMap_cons, List.filterMap_nil, List.getElem?_toArray, List.getElem?_cons_zero, List.getElem?_cons_succ, Option.map_some]
    (repeat (first | (apply walkF_pure (base := fun p : Ext => ext _ p) rfl rfl rfl (by kernel_rfl); · (intro px K hK; go_big_quiet_op; first | exact hK | (apply Exists.intro; refine ⟨fun _ => ?_, ?_⟩; (· ((first | (go_at_call 15; with_reducible exact Gives.inFloat (xat_any _ _ _)) | (go_at_call 14; with_reducible exact Gives.inFloat (KO1.out _ (by repeat (first | with_reducible exact Up.refl _ | with_reducible apply Up.plus | apply Up.ext | apply Up.alloc | apply Up.drew | (refine Up.setCell ?_ (by simp; try omega) _)))))))); exact hK))) | (apply walkF_skip rfl; simp only [Act.put, List.setIfInBounds_toArray, List.set_cons_zero, List.set_cons_succ])))
    refine walkF_lazy (.int .i64 0) rfl rfl (fun _ => by simp [go_sem]) ?_
    simp only [Act.put, List.setIfInBounds_toArray, List.set_cons_zero, List.set_cons_succ]
    refine walkF_nil (end1 (fun g V3 hg hV bg => ?_))
    simp only [Act.put, List.setIfInBounds_toArray, List.set_cons_zero, List.set_cons_succ]
    (try simp only [List.filterMap_cons, List.filterMap_nil, List.getElem?_toArray, List.getElem?_cons_zero, List.getElem?_cons_succ])
    have hVu : Up V2 V3 := hV
    have HV := hide (And.intro hVu bg)
    have hgl := bg.lt
    clear hV
    have g0 := bg.cell 0 rfl
    have g1 := bg.cell 1 rfl
    have g2 := bg.cell 2 rfl
    have g3 := bg.cell 3 rfl
    have fg0 := bg.frozen 0
    have fg1 := bg.frozen 1
    have fg2 := bg.frozen 2
    have fg3 := bg.frozen 3
    clear bg KO1 f0 f1 lW
    have hgA : A < g := by have := HY.out.2.2.2.2.2.2.lt; omega
    have bdV := HY.out.2.1.up hVu
    have bTV := HY.out.2.2.1.up hVu
    have bGV := HY.out.2.2.2.1.up hVu
    have bMV := HY.out.2.2.2.2.1.up hVu
    have bWV := HY.out.2.2.2.2.2.1.up hVu
    have bAV := HY.out.2.2.2.2.2.2.up hVu
    have a0 := bAV.cell 0 rfl
    have a1 := bAV.cell 1 rfl
    have a2 := bAV.cell 2 rfl
    have a3 := bAV.cell 3 rfl
    have f0 := bWV.cell 0 rfl
    have f1 := bWV.cell 1 rfl
    have b0 := bGV.cell 0 rfl
    have b1 := bGV.cell 1 rfl
    have d0 := bdV.cell 0 rfl
    have d1 := bdV.cell 1 rfl
    have ld := bdV.lt
    have lG := bGV.lt
    have lW := bWV.lt
    have lA := bAV.lt
    have w1 : N + 1 ≠ g := by omega
    have w2 : G ≠ g := by omega
    have w3 : M + 1 ≠ g := by omega
    have w4 : A ≠ g := by omega
    have HZ := hide (And.intro bTV bMV)
    clear bdV bTV bGV bMV bWV bAV hVu
    have hs' := hide hs
    go_wp2_with (first | (go_at_call 14; (with_reducible refine (Oh2.out _ (by repeat (first | with_reducible exact HZ.out.1 | with_reducible apply Box.ext | with_reducible apply Box.alloc | with_reducible apply Box.drew | (with_reducible refine Box.other ?_ (by omega) _ _))) (by repeat (first | with_reducible exact HZ.out.2 | with_reducible apply Box.ext | with_reducible apply Box.alloc | with_reducible apply Box.drew | (with_reducible refine Box.other ?_ (by omega) _ _)))).mono ?_); intro _) | (go_at_call 16; (with_reducible refine (I1.out _).mono ?_); intro _) | (go_at_call 17; (with_reducible refine (E1.out _).mono ?_); intro _) | (go_at_call 17; (with_reducible refine (E2.out _).mono ?_); intro _) | (go_at_call 18; (with_reducible refine (awake_any _).mono ?_); intro _))
    go_ret
    refine ⟨rfl, ?_⟩
    have n1' := HY.out.1.below.size
    exact (by repeat (first | with_reducible exact HY.out.1.trans HV.out.1 | with_reducible apply Up.plus | with_reducible apply Up.ext | with_reducible apply Up.alloc | with_reducible apply Up.drew | (with_reducible refine Up.setCell ?_ (by simp <;> omega) _)))

set_option maxRecDepth 100000 in
theorem fexact_lifted (os : Os) (started : os.Started) (H : Type) (enc : TypeId × Value → H) :
    ReturnsInHanded {} Try.checked os 3 .any (Rows.forceExactSpec.pre6 enc Try.prog Try.f3 Rows.forceExactRow.domain false) (Rows.forceExactSpec.post enc Try.prog Try.f3 false true false false) := by
  refine returnsInHanded_of_change (C := Try.checked) knob_own started (by kernel_rfl) Try.func3
    (ChangeSpec.witness6 (enc := enc) (C := Try.checked) false ⟨#[], #[.slice none 0 0], []⟩ 8 (by kernel_rfl) (by kernel_rfl) (by kernel_rfl) (by kernel_rfl)) ?_
  intro W base args ds gs before hval0 hW _ _
  have hval : ∀ (j : Nat) t v, Try.f3.params[j]? = some t → args[j]? = some v → Value.okWide Try.prog W .any base t v := hval0
  have hW' := hW
  obtain ⟨p, q, hA0, hV, rfl, _, _⟩ := hW
  have hA : DataW.TrodAll enc Try.prog W 0 (fun _ => true) true Try.f3.params.toList args.toList ds p := hA0
  rw [Try.params3] at hA hval
  obtain ⟨v0, vs0, d0, ds0, p0, q0, hargs, rfl, rfl, h0, r0⟩ := trodAll_cons hA
  obtain ⟨rfl, rfl, rfl⟩ := trodAll_nil r0
  obtain rfl : args = #[v0] := by cases args; simp_all
  obtain ⟨rfl, rfl⟩ := trodVars_none hV
  have hlt0 : ∀ x ∈ p0, x.block < W.heap.size := fun x hx => hW'.lt x (by simp [hx])
  obtain ⟨hn0, shut0⟩ := open_nums (hval 0 22 v0 rfl rfl) h0 hlt0
  clear hA0 hval0
  simp only [List.append_nil] at hW'
  refine (fexact_law v0 hn0 ).mono fun px => ?_
  exact ⟨_, rfl, post_of_below (pa := (p0 ++ [])) (pv := []) hW' (fun _ _ _ => (trodAll_cons_mk (shut_bool Try.underlying4 _) trodAll_mk0)) (fun sp hsp => (trodAll_cons_mk (shut0 _ sp (Up.below ⟨px, rfl⟩) (fun x hx => hsp x (by simp [hx]))) trodAll_mk0)) (fun _ _ => rfl) (by simp)
    (Up.below ⟨px, rfl⟩) (ok_one (by kernel_rfl) rfl (okWide_bool_mk Try.underlying4 _))⟩

theorem fexact_holds : Rows.ForceExactSaid :=
  OpenClaim.holds_of_wide 3 Try.f3 rfl rfl rfl rfl rfl rfl rfl ⟨rfl, rfl, rfl, rfl, rfl⟩ rfl rfl rfl rfl rfl (by kernel_rfl) Try.func3 (by kernel_rfl)
    (of_decide_eq_true (by kernel_rfl)) (by unfold Func.isWrapper; rw [if_neg (by decide +kernel)]; exact ⟨rfl, rfl⟩)
    (fun os started H enc _ => fexact_lifted os started H enc)
#print axioms fexact_holds
end Go.Proofs.Ytbcgdhldkanecaa
