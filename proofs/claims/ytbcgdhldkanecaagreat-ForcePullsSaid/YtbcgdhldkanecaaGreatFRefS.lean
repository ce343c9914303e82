/- The reference of package force: the span of the numbers Mu x / q. Conditions: none. -/
import Derived.Test.YtbcgdhldkanecaaGreatForceB
import Derived.Test.YtbcgdhldkanecaaGreatFloat
namespace Go.Proofs.YtbcgdhldkanecaaGreat
set_option linter.unusedVariables false
set_option linter.unusedSimpArgs false
open Go.RowKit Go.Shelf

/-- the hull of the first quotients, in the reference's order -/
def mdR (mu : Int) (x q : Sp) (k : Nat) : Sp := mdP mu (if k / 2 = 0 then x.1 else x.2) (if k % 2 = 0 then q.1 else q.2)
def accR (m : Nat → Sp) : Nat → Sp
  | 0 => (0, 0)
  | 1 => m 0
  | k + 2 => hullP (accR m (k + 1)) (m (k + 1))
theorem accR_four (mu : Int) (x q : Sp) : accR (mdR mu x q) 4 = scaledP mu x q := by
  unfold scaledP
  simp only [accR, hullP, mdR]
  apply Prod.ext <;> simp <;> omega
theorem md_err {mu n d : Int} (h : (mulDivE mu n d).2.2 = 0) : mdP mu n d = ((mulDivE mu n d).1, (mulDivE mu n d).2.1) := by unfold mdP; rw [if_pos h]
/-- the state of both loops -/
def ScS (w : World) (m : Nat → Sp) (x q : Sp) (j : Nat) (wr : World) : Prop :=
  Up w wr ∧ Box wr (w.heap.size + 1) #[.int .i64 q.1, .int .i64 q.2] 26 ∧ Box wr (w.heap.size + 1 + 1) #[.int .i64 (0), .int .i64 (0)] 26 ∧ Box wr (w.heap.size + 1 + 1 + 1) #[.int .i64 (accR m j).1, .int .i64 (accR m j).2] 26 ∧ Box wr (w.heap.size + 1 + 1 + 1 + 1) #[.int .i64 x.1, .int .i64 x.2] 2
theorem sc_x {mu : Int} {x q : Sp} {X : Nat} {W : World} {T : TypeId} (hx : Box W X #[.int .i64 x.1, .int .i64 x.2] T) {i : Nat} (hi : i < 2) : ∃ xi : Int, W.cell? ⟨X, i, none⟩ = some (.int .i64 xi) ∧ ∀ k, k < 2 → mdR mu x q (2 * i + k) = mdP mu xi (if k = 0 then q.1 else q.2) := by
  match i, hi with
  | 0, _ =>
    refine ⟨x.1, hx.cell 0 rfl, fun k hk => ?_⟩
    match k, hk with
    | 0, _ => rfl
    | 1, _ => rfl
  | 1, _ =>
    refine ⟨x.2, hx.cell 1 rfl, fun k hk => ?_⟩
    match k, hk with
    | 0, _ => rfl
    | 1, _ => rfl
theorem sc_q {q : Sp} {Y : Nat} {W : World} {T : TypeId} (hq : Box W Y #[.int .i64 q.1, .int .i64 q.2] T) {k : Nat} (hk : k < 2) : W.cell? ⟨Y, k, none⟩ = some (.int .i64 (if k = 0 then q.1 else q.2)) := by
  match k, hk with
  | 0, _ => exact hq.cell 0 rfl
  | 1, _ => exact hq.cell 1 rfl
theorem accR_one {m : Nat → Sp} {L H : Int} (h : m 0 = (L, H)) : accR m (0 + 1) = (L, H) := h
theorem accR_next {m : Nat → Sp} {j : Nat} (hj : j ≠ 0) {L H O1 O2 : Int} (ha : accR m j = (O1, O2)) (h : m j = (L, H)) : accR m (j + 1) = (min O1 L, max O2 H) := by
  match j, hj with
  | k + 1, _ =>
    show hullP (accR m (k + 1)) (m (k + 1)) = _
    rw [ha, h]
    rfl
set_option maxRecDepth 100000 in
set_option maxHeartbeats 8000000 in
theorem g_scaled (mu : Int) (x1 x2 q1 q2 : Int) (w : World) : Gives Tryz.prog 79 #[.int .i64 mu, .agg #[.int .i64 (x1), .int .i64 (x2)], .agg #[.int .i64 (q1), .int .i64 (q2)]] w (.agg #[.int .i64 (scaledP mu (x1, x2) (q1, q2)).1, .int .i64 (scaledP mu (x1, x2) (q1, q2)).2]) := by
  rw [← accR_four]
  obtain ⟨m, hm⟩ : ∃ m, mdR mu (x1, x2) (q1, q2) = m := ⟨_, rfl⟩
  rw [hm]
  have HM := hide hm
  clear hm
  (unfold Gives; go_enter Tryz.func79, Tryz.ntmps79)
  go_wp2
  go_loopw [8, 22] (fun s8 s22 wr => ∃ i : Nat, s22 = .int .i64 i ∧ i ≤ 2 ∧ s8 = .bool (i == 0) ∧ Hid (ScS w m (x1, x2) (q1, q2) (2 * i) wr)) (fun _ s _ => 2 - (intOf s).toNat)
  case atStart => exact ⟨0, by go_num, by omega, rfl, hide ⟨(by repeat (first | with_reducible exact Up.refl _ | with_reducible apply Up.plus | apply Up.ext | apply Up.alloc | apply Up.drew | (refine Up.setCell ?_ (by simp; try omega) _))), (by repeat (first | exact Box.mk rfl | (refine Box.mk ?_; simp; done) | apply Box.ext | apply Box.drew | apply Box.alloc | apply Box.two1 | (refine Box.other ?_ (by omega) _ _))), (by repeat (first | exact Box.mk rfl | (refine Box.mk ?_; simp; done) | apply Box.ext | apply Box.drew | apply Box.alloc | apply Box.two1 | (refine Box.other ?_ (by omega) _ _))), (by repeat (first | exact Box.mk rfl | (refine Box.mk ?_; simp; done) | apply Box.ext | apply Box.drew | apply Box.alloc | apply Box.two1 | (refine Box.other ?_ (by omega) _ _))), (by repeat (first | exact Box.mk rfl | (refine Box.mk ?_; simp; done) | apply Box.ext | apply Box.drew | apply Box.alloc | apply Box.two1 | (refine Box.other ?_ (by omega) _ _)))⟩⟩
  case round =>
    obtain ⟨i, rfl, hi, rfl, hS⟩ := hrel
    obtain ⟨hu, bq, bz, bo, bx⟩ := hS.out
    by_cases hlt : i < 2
    · have hib : decide ((i : Int) < 2) = true := by simp; omega
      have hin : decide (i < 2) = true := by simp; omega
      obtain ⟨xi, cx, hxi⟩ := sc_x (mu := mu) (q := (q1, q2)) bx hlt
      have cq0 := bq.cell 0 rfl
      have cq1 := bq.cell 1 rfl
      have lx := bx.lt
      have HXI := hide hxi
      clear hxi
      have HB := hide (And.intro hu (And.intro bq (And.intro bz (And.intro bo bx))))
      clear hS hu bq bz bo bx
      go_wp2_with fail
      refine forgetW (fun Z => Up wr Z ∧ Box Z wr.heap.size #[.int .i64 (q1), .int .i64 (q2)] 2) ⟨(by repeat (first | with_reducible exact Up.refl _ | with_reducible apply Up.plus | apply Up.ext | apply Up.alloc | apply Up.drew | (refine Up.setCell ?_ (by simp; try omega) _))), Box.mk rfl⟩ ?_
      rintro Z ⟨hZ, by0⟩
      obtain ⟨Y, hY⟩ : ∃ Y, wr.heap.size = Y := ⟨_, rfl⟩
      rw [hY] at by0 ⊢
      have hYw : w.heap.size + 1 + 1 + 1 + 1 < Y := by omega
      have hS0 := hide (show ScS w m (x1, x2) (q1, q2) (2 * i + 0) Z from ⟨HB.out.1.trans hZ, HB.out.2.1.up hZ, HB.out.2.2.1.up hZ, HB.out.2.2.2.1.up hZ, HB.out.2.2.2.2.up hZ⟩)
      have hY0 := hide by0
      clear hZ by0 HB cx cq0 cq1 lx hY
      go_loopw [8, 32] (fun s8 s32 w2 => ∃ k : Nat, s32 = .int .i64 k ∧ k ≤ 2 ∧ s8 = .bool (2 * i + k == 0) ∧ Hid (ScS w m (x1, x2) (q1, q2) (2 * i + k) w2 ∧ Box w2 Y #[.int .i64 (q1), .int .i64 (q2)] 2)) (fun _ s _ => 2 - (intOf s).toNat)
      case atStart => exact ⟨0, by go_num, by omega, by cases i <;> simp, hide ⟨hS0.out, hY0.out⟩⟩
      case round =>
        obtain ⟨k, rfl, hk, rfl, hT⟩ := hrel
        clear hS0 hY0
        obtain ⟨⟨hu, bq, bz, bo, bx⟩, by0⟩ := hT.out
        by_cases hlk : k < 2
        · have hkb : decide ((k : Int) < 2) = true := by simp; omega
          have hkn : decide (k < 2) = true := by simp; omega
          obtain ⟨qk, hqk⟩ : ∃ x, (if k = 0 then q1 else q2) = x := ⟨_, rfl⟩
          have ck := sc_q (q := (q1, q2)) by0 hlk
          have hmd := HXI.out k hlk
          rw [HM.out] at hmd
          simp only [hqk] at ck hmd
          have ly := by0.lt
          obtain ⟨j, hj⟩ : ∃ j, 2 * i + k = j := ⟨_, rfl⟩
          have hjk := hide (show 2 * i + (k + 1) = j + 1 by omega)
          rw [hj] at bo hmd ⊢
          obtain ⟨O1, O2, hO⟩ : ∃ O1 O2, accR m j = (O1, O2) := ⟨_, _, rfl⟩
          rw [hO] at bo
          have o0 := bo.cell 0 rfl
          have o1 := bo.cell 1 rfl
          have fo0 := bo.frozen 0
          have fo1 := bo.frozen 1
          have lo := bo.lt
          have HB := hide (And.intro hu (And.intro bq (And.intro bz (And.intro bo (And.intro bx by0)))))
          replace hj := hide hj
          have HO := hide hO
          clear hT hu bq bz bo bx by0 hqk hO
          have KD := hide (fun W => rmuldiv_any mu xi qk W)
          by_cases he : (mulDivE mu xi qk).2.2 = 0
          · rw [md_err he] at hmd
            rw [he] at KD
            obtain ⟨L, H, hLH⟩ : ∃ L H, mulDivE mu xi qk = (L, H, 0) := ⟨(mulDivE mu xi qk).1, (mulDivE mu xi qk).2.1, by rw [← he]⟩
            simp only [hLH] at hmd KD
            have HMD := hide hmd
            clear hmd he hLH
            by_cases hj0 : j = 0
            · have hjb : (j == 0) = true := by simp [hj0]
              have hjb2 : decide (j = 0) = true := by simp [hj0]
              replace hj0 := hide hj0
              go_wp2_with (go_at_call 107; (with_reducible refine (KD.out _).mono ?_); intro _)
              go_roundw
              case rel =>
                refine ⟨k + 1, by go_num, by omega, by rw [hjk.out]; simp, hide ⟨?_, ?_⟩⟩
                · rw [hjk.out]
                  refine ⟨(by repeat (first | with_reducible exact HB.out.1 | with_reducible exact Up.refl _ | apply Up.ext | apply Up.alloc | apply Up.drew | (refine Up.setCell ?_ (by simp [World.setCell]; try omega) _))), (by repeat (first | with_reducible exact HB.out.2.1 | apply Box.ext | apply Box.drew | apply Box.alloc | (refine Box.other ?_ (by simp; try omega) _ _))), (by repeat (first | with_reducible exact HB.out.2.2.1 | apply Box.ext | apply Box.drew | apply Box.alloc | (refine Box.other ?_ (by simp; try omega) _ _))), ?_, (by repeat (first | with_reducible exact HB.out.2.2.2.2.1 | apply Box.ext | apply Box.drew | apply Box.alloc | (refine Box.other ?_ (by simp; try omega) _ _)))⟩
                  rw [show accR m (j + 1) = (L, H) by rw [hj0.out]; exact accR_one (by rw [← hj0.out]; exact HMD.out)]
                  exact (by (repeat (first | with_reducible apply Box.ext | with_reducible apply Box.alloc | with_reducible apply Box.drew)); exact ((HB.out.2.2.2.1.set 0 (.int .i64 L)).set 1 (.int .i64 H)))
                · exact (by repeat (first | with_reducible exact HB.out.2.2.2.2.2 | apply Box.ext | apply Box.drew | apply Box.alloc | (refine Box.other ?_ (by simp; try omega) _ _)))
              case measure => simp [intOf]; omega
            · have hjb : (j == 0) = false := by simp [hj0]
              have hjb2 : decide (j = 0) = false := by simp [hj0]
              have HN := hide (accR_next hj0 HO.out HMD.out)
              replace hj0 := hide hj0
              by_cases hl : L < O1
              · have hlb : decide (L < O1) = true := by simp; omega
                by_cases hh : O2 < H
                · have hhb : decide (O2 < H) = true := by simp; omega
                  have HE := hide (show accR m (j + 1) = (L, H) by rw [HN.out]; apply Prod.ext <;> simp only <;> omega)
                  replace hl := hide hl
                  replace hh := hide hh
                  go_wp2_with (go_at_call 107; (with_reducible refine (KD.out _).mono ?_); intro _)
                  go_roundw
                  case rel =>
                    refine ⟨k + 1, by go_num, by omega, by rw [hjk.out]; simp, hide ⟨?_, ?_⟩⟩
                    · rw [hjk.out]
                      refine ⟨(by repeat (first | with_reducible exact HB.out.1 | with_reducible exact Up.refl _ | apply Up.ext | apply Up.alloc | apply Up.drew | (refine Up.setCell ?_ (by simp [World.setCell]; try omega) _))), (by repeat (first | with_reducible exact HB.out.2.1 | apply Box.ext | apply Box.drew | apply Box.alloc | (refine Box.other ?_ (by simp; try omega) _ _))), (by repeat (first | with_reducible exact HB.out.2.2.1 | apply Box.ext | apply Box.drew | apply Box.alloc | (refine Box.other ?_ (by simp; try omega) _ _))), ?_, (by repeat (first | with_reducible exact HB.out.2.2.2.2.1 | apply Box.ext | apply Box.drew | apply Box.alloc | (refine Box.other ?_ (by simp; try omega) _ _)))⟩
                      rw [HE.out]
                      exact (by (repeat (first | with_reducible apply Box.ext | with_reducible apply Box.alloc | with_reducible apply Box.drew)); exact ((HB.out.2.2.2.1.set 0 (.int .i64 L)).set 1 (.int .i64 H)))
                    · exact (by repeat (first | with_reducible exact HB.out.2.2.2.2.2 | apply Box.ext | apply Box.drew | apply Box.alloc | (refine Box.other ?_ (by simp; try omega) _ _)))
                  case measure => simp [intOf]; omega
                · have hhb : decide (O2 < H) = false := by simp; omega
                  have HE := hide (show accR m (j + 1) = (L, O2) by rw [HN.out]; apply Prod.ext <;> simp only <;> omega)
                  replace hl := hide hl
                  replace hh := hide hh
                  go_wp2_with (go_at_call 107; (with_reducible refine (KD.out _).mono ?_); intro _)
                  go_roundw
                  case rel =>
                    refine ⟨k + 1, by go_num, by omega, by rw [hjk.out]; simp, hide ⟨?_, ?_⟩⟩
                    · rw [hjk.out]
                      refine ⟨(by repeat (first | with_reducible exact HB.out.1 | with_reducible exact Up.refl _ | apply Up.ext | apply Up.alloc | apply Up.drew | (refine Up.setCell ?_ (by simp [World.setCell]; try omega) _))), (by repeat (first | with_reducible exact HB.out.2.1 | apply Box.ext | apply Box.drew | apply Box.alloc | (refine Box.other ?_ (by simp; try omega) _ _))), (by repeat (first | with_reducible exact HB.out.2.2.1 | apply Box.ext | apply Box.drew | apply Box.alloc | (refine Box.other ?_ (by simp; try omega) _ _))), ?_, (by repeat (first | with_reducible exact HB.out.2.2.2.2.1 | apply Box.ext | apply Box.drew | apply Box.alloc | (refine Box.other ?_ (by simp; try omega) _ _)))⟩
                      rw [HE.out]
                      exact (by (repeat (first | with_reducible apply Box.ext | with_reducible apply Box.alloc | with_reducible apply Box.drew)); exact (HB.out.2.2.2.1.set 0 (.int .i64 L)))
                    · exact (by repeat (first | with_reducible exact HB.out.2.2.2.2.2 | apply Box.ext | apply Box.drew | apply Box.alloc | (refine Box.other ?_ (by simp; try omega) _ _)))
                  case measure => simp [intOf]; omega
              · have hlb : decide (L < O1) = false := by simp; omega
                by_cases hh : O2 < H
                · have hhb : decide (O2 < H) = true := by simp; omega
                  have HE := hide (show accR m (j + 1) = (O1, H) by rw [HN.out]; apply Prod.ext <;> simp only <;> omega)
                  replace hl := hide hl
                  replace hh := hide hh
                  go_wp2_with (go_at_call 107; (with_reducible refine (KD.out _).mono ?_); intro _)
                  go_roundw
                  case rel =>
                    refine ⟨k + 1, by go_num, by omega, by rw [hjk.out]; simp, hide ⟨?_, ?_⟩⟩
                    · rw [hjk.out]
                      refine ⟨(by repeat (first | with_reducible exact HB.out.1 | with_reducible exact Up.refl _ | apply Up.ext | apply Up.alloc | apply Up.drew | (refine Up.setCell ?_ (by simp [World.setCell]; try omega) _))), (by repeat (first | with_reducible exact HB.out.2.1 | apply Box.ext | apply Box.drew | apply Box.alloc | (refine Box.other ?_ (by simp; try omega) _ _))), (by repeat (first | with_reducible exact HB.out.2.2.1 | apply Box.ext | apply Box.drew | apply Box.alloc | (refine Box.other ?_ (by simp; try omega) _ _))), ?_, (by repeat (first | with_reducible exact HB.out.2.2.2.2.1 | apply Box.ext | apply Box.drew | apply Box.alloc | (refine Box.other ?_ (by simp; try omega) _ _)))⟩
                      rw [HE.out]
                      exact (by (repeat (first | with_reducible apply Box.ext | with_reducible apply Box.alloc | with_reducible apply Box.drew)); exact (HB.out.2.2.2.1.set 1 (.int .i64 H)))
                    · exact (by repeat (first | with_reducible exact HB.out.2.2.2.2.2 | apply Box.ext | apply Box.drew | apply Box.alloc | (refine Box.other ?_ (by simp; try omega) _ _)))
                  case measure => simp [intOf]; omega
                · have hhb : decide (O2 < H) = false := by simp; omega
                  have HE := hide (show accR m (j + 1) = (O1, O2) by rw [HN.out]; apply Prod.ext <;> simp only <;> omega)
                  replace hl := hide hl
                  replace hh := hide hh
                  go_wp2_with (go_at_call 107; (with_reducible refine (KD.out _).mono ?_); intro _)
                  go_roundw
                  case rel =>
                    refine ⟨k + 1, by go_num, by omega, by rw [hjk.out]; simp, hide ⟨?_, ?_⟩⟩
                    · rw [hjk.out]
                      refine ⟨(by repeat (first | with_reducible exact HB.out.1 | with_reducible exact Up.refl _ | apply Up.ext | apply Up.alloc | apply Up.drew | (refine Up.setCell ?_ (by simp [World.setCell]; try omega) _))), (by repeat (first | with_reducible exact HB.out.2.1 | apply Box.ext | apply Box.drew | apply Box.alloc | (refine Box.other ?_ (by simp; try omega) _ _))), (by repeat (first | with_reducible exact HB.out.2.2.1 | apply Box.ext | apply Box.drew | apply Box.alloc | (refine Box.other ?_ (by simp; try omega) _ _))), ?_, (by repeat (first | with_reducible exact HB.out.2.2.2.2.1 | apply Box.ext | apply Box.drew | apply Box.alloc | (refine Box.other ?_ (by simp; try omega) _ _)))⟩
                      rw [HE.out]
                      exact (by (repeat (first | with_reducible apply Box.ext | with_reducible apply Box.alloc | with_reducible apply Box.drew)); exact HB.out.2.2.2.1)
                    · exact (by repeat (first | with_reducible exact HB.out.2.2.2.2.2 | apply Box.ext | apply Box.drew | apply Box.alloc | (refine Box.other ?_ (by simp; try omega) _ _)))
                  case measure => simp [intOf]; omega
          · have heb : ((mulDivE mu xi qk).2.2 != 0) = true := by simp [he]
            by_cases hn : xi < 0
            · have hnb : decide (xi < 0) = true := by simp; omega
              have HMD := hide (show m j = (-1152921504606846976, -1152921504606846976) by rw [hmd]; unfold mdP; rw [if_neg he, if_pos hn])
              replace hn := hide hn
              clear hmd he
              by_cases hj0 : j = 0
              · have hjb : (j == 0) = true := by simp [hj0]
                have hjb2 : decide (j = 0) = true := by simp [hj0]
                replace hj0 := hide hj0
                go_wp2_with (go_at_call 107; (with_reducible refine (KD.out _).mono ?_); intro _)
                go_roundw
                case rel =>
                  refine ⟨k + 1, by go_num, by omega, by rw [hjk.out]; simp, hide ⟨?_, ?_⟩⟩
                  · rw [hjk.out]
                    refine ⟨(by repeat (first | with_reducible exact HB.out.1 | with_reducible exact Up.refl _ | apply Up.ext | apply Up.alloc | apply Up.drew | (refine Up.setCell ?_ (by simp [World.setCell]; try omega) _))), (by repeat (first | with_reducible exact HB.out.2.1 | apply Box.ext | apply Box.drew | apply Box.alloc | (refine Box.other ?_ (by simp; try omega) _ _))), (by repeat (first | with_reducible exact HB.out.2.2.1 | apply Box.ext | apply Box.drew | apply Box.alloc | (refine Box.other ?_ (by simp; try omega) _ _))), ?_, (by repeat (first | with_reducible exact HB.out.2.2.2.2.1 | apply Box.ext | apply Box.drew | apply Box.alloc | (refine Box.other ?_ (by simp; try omega) _ _)))⟩
                    rw [show accR m (j + 1) = (-1152921504606846976, -1152921504606846976) by rw [hj0.out]; exact accR_one (by rw [← hj0.out]; exact HMD.out)]
                    exact (by (repeat (first | with_reducible apply Box.ext | with_reducible apply Box.alloc | with_reducible apply Box.drew)); exact ((HB.out.2.2.2.1.set 0 (.int .i64 (-1152921504606846976))).set 1 (.int .i64 (-1152921504606846976))))
                  · exact (by repeat (first | with_reducible exact HB.out.2.2.2.2.2 | apply Box.ext | apply Box.drew | apply Box.alloc | (refine Box.other ?_ (by simp; try omega) _ _)))
                case measure => simp [intOf]; omega
              · have hjb : (j == 0) = false := by simp [hj0]
                have hjb2 : decide (j = 0) = false := by simp [hj0]
                have HN := hide (accR_next hj0 HO.out HMD.out)
                replace hj0 := hide hj0
                by_cases hl : (-1152921504606846976) < O1
                · have hlb : decide ((-1152921504606846976) < O1) = true := by simp; omega
                  by_cases hh : O2 < (-1152921504606846976)
                  · have hhb : decide (O2 < (-1152921504606846976)) = true := by simp; omega
                    have HE := hide (show accR m (j + 1) = ((-1152921504606846976), (-1152921504606846976)) by rw [HN.out]; apply Prod.ext <;> simp only <;> omega)
                    replace hl := hide hl
                    replace hh := hide hh
                    go_wp2_with (go_at_call 107; (with_reducible refine (KD.out _).mono ?_); intro _)
                    go_roundw
                    case rel =>
                      refine ⟨k + 1, by go_num, by omega, by rw [hjk.out]; simp, hide ⟨?_, ?_⟩⟩
                      · rw [hjk.out]
                        refine ⟨(by repeat (first | with_reducible exact HB.out.1 | with_reducible exact Up.refl _ | apply Up.ext | apply Up.alloc | apply Up.drew | (refine Up.setCell ?_ (by simp [World.setCell]; try omega) _))), (by repeat (first | with_reducible exact HB.out.2.1 | apply Box.ext | apply Box.drew | apply Box.alloc | (refine Box.other ?_ (by simp; try omega) _ _))), (by repeat (first | with_reducible exact HB.out.2.2.1 | apply Box.ext | apply Box.drew | apply Box.alloc | (refine Box.other ?_ (by simp; try omega) _ _))), ?_, (by repeat (first | with_reducible exact HB.out.2.2.2.2.1 | apply Box.ext | apply Box.drew | apply Box.alloc | (refine Box.other ?_ (by simp; try omega) _ _)))⟩
                        rw [HE.out]
                        exact (by (repeat (first | with_reducible apply Box.ext | with_reducible apply Box.alloc | with_reducible apply Box.drew)); exact ((HB.out.2.2.2.1.set 0 (.int .i64 (-1152921504606846976))).set 1 (.int .i64 (-1152921504606846976))))
                      · exact (by repeat (first | with_reducible exact HB.out.2.2.2.2.2 | apply Box.ext | apply Box.drew | apply Box.alloc | (refine Box.other ?_ (by simp; try omega) _ _)))
                    case measure => simp [intOf]; omega
                  · have hhb : decide (O2 < (-1152921504606846976)) = false := by simp; omega
                    have HE := hide (show accR m (j + 1) = ((-1152921504606846976), O2) by rw [HN.out]; apply Prod.ext <;> simp only <;> omega)
                    replace hl := hide hl
                    replace hh := hide hh
                    go_wp2_with (go_at_call 107; (with_reducible refine (KD.out _).mono ?_); intro _)
                    go_roundw
                    case rel =>
                      refine ⟨k + 1, by go_num, by omega, by rw [hjk.out]; simp, hide ⟨?_, ?_⟩⟩
                      · rw [hjk.out]
                        refine ⟨(by repeat (first | with_reducible exact HB.out.1 | with_reducible exact Up.refl _ | apply Up.ext | apply Up.alloc | apply Up.drew | (refine Up.setCell ?_ (by simp [World.setCell]; try omega) _))), (by repeat (first | with_reducible exact HB.out.2.1 | apply Box.ext | apply Box.drew | apply Box.alloc | (refine Box.other ?_ (by simp; try omega) _ _))), (by repeat (first | with_reducible exact HB.out.2.2.1 | apply Box.ext | apply Box.drew | apply Box.alloc | (refine Box.other ?_ (by simp; try omega) _ _))), ?_, (by repeat (first | with_reducible exact HB.out.2.2.2.2.1 | apply Box.ext | apply Box.drew | apply Box.alloc | (refine Box.other ?_ (by simp; try omega) _ _)))⟩
                        rw [HE.out]
                        exact (by (repeat (first | with_reducible apply Box.ext | with_reducible apply Box.alloc | with_reducible apply Box.drew)); exact (HB.out.2.2.2.1.set 0 (.int .i64 (-1152921504606846976))))
                      · exact (by repeat (first | with_reducible exact HB.out.2.2.2.2.2 | apply Box.ext | apply Box.drew | apply Box.alloc | (refine Box.other ?_ (by simp; try omega) _ _)))
                    case measure => simp [intOf]; omega
                · have hlb : decide ((-1152921504606846976) < O1) = false := by simp; omega
                  by_cases hh : O2 < (-1152921504606846976)
                  · have hhb : decide (O2 < (-1152921504606846976)) = true := by simp; omega
                    have HE := hide (show accR m (j + 1) = (O1, (-1152921504606846976)) by rw [HN.out]; apply Prod.ext <;> simp only <;> omega)
                    replace hl := hide hl
                    replace hh := hide hh
                    go_wp2_with (go_at_call 107; (with_reducible refine (KD.out _).mono ?_); intro _)
                    go_roundw
                    case rel =>
                      refine ⟨k + 1, by go_num, by omega, by rw [hjk.out]; simp, hide ⟨?_, ?_⟩⟩
                      · rw [hjk.out]
                        refine ⟨(by repeat (first | with_reducible exact HB.out.1 | with_reducible exact Up.refl _ | apply Up.ext | apply Up.alloc | apply Up.drew | (refine Up.setCell ?_ (by simp [World.setCell]; try omega) _))), (by repeat (first | with_reducible exact HB.out.2.1 | apply Box.ext | apply Box.drew | apply Box.alloc | (refine Box.other ?_ (by simp; try omega) _ _))), (by repeat (first | with_reducible exact HB.out.2.2.1 | apply Box.ext | apply Box.drew | apply Box.alloc | (refine Box.other ?_ (by simp; try omega) _ _))), ?_, (by repeat (first | with_reducible exact HB.out.2.2.2.2.1 | apply Box.ext | apply Box.drew | apply Box.alloc | (refine Box.other ?_ (by simp; try omega) _ _)))⟩
                        rw [HE.out]
                        exact (by (repeat (first | with_reducible apply Box.ext | with_reducible apply Box.alloc | with_reducible apply Box.drew)); exact (HB.out.2.2.2.1.set 1 (.int .i64 (-1152921504606846976))))
                      · exact (by repeat (first | with_reducible exact HB.out.2.2.2.2.2 | apply Box.ext | apply Box.drew | apply Box.alloc | (refine Box.other ?_ (by simp; try omega) _ _)))
                    case measure => simp [intOf]; omega
                  · have hhb : decide (O2 < (-1152921504606846976)) = false := by simp; omega
                    have HE := hide (show accR m (j + 1) = (O1, O2) by rw [HN.out]; apply Prod.ext <;> simp only <;> omega)
                    replace hl := hide hl
                    replace hh := hide hh
                    go_wp2_with (go_at_call 107; (with_reducible refine (KD.out _).mono ?_); intro _)
                    go_roundw
                    case rel =>
                      refine ⟨k + 1, by go_num, by omega, by rw [hjk.out]; simp, hide ⟨?_, ?_⟩⟩
                      · rw [hjk.out]
                        refine ⟨(by repeat (first | with_reducible exact HB.out.1 | with_reducible exact Up.refl _ | apply Up.ext | apply Up.alloc | apply Up.drew | (refine Up.setCell ?_ (by simp [World.setCell]; try omega) _))), (by repeat (first | with_reducible exact HB.out.2.1 | apply Box.ext | apply Box.drew | apply Box.alloc | (refine Box.other ?_ (by simp; try omega) _ _))), (by repeat (first | with_reducible exact HB.out.2.2.1 | apply Box.ext | apply Box.drew | apply Box.alloc | (refine Box.other ?_ (by simp; try omega) _ _))), ?_, (by repeat (first | with_reducible exact HB.out.2.2.2.2.1 | apply Box.ext | apply Box.drew | apply Box.alloc | (refine Box.other ?_ (by simp; try omega) _ _)))⟩
                        rw [HE.out]
                        exact (by (repeat (first | with_reducible apply Box.ext | with_reducible apply Box.alloc | with_reducible apply Box.drew)); exact HB.out.2.2.2.1)
                      · exact (by repeat (first | with_reducible exact HB.out.2.2.2.2.2 | apply Box.ext | apply Box.drew | apply Box.alloc | (refine Box.other ?_ (by simp; try omega) _ _)))
                    case measure => simp [intOf]; omega
            · have hnb : decide (xi < 0) = false := by simp; omega
              have HMD := hide (show m j = (1152921504606846976, 1152921504606846976) by rw [hmd]; unfold mdP; rw [if_neg he, if_neg hn])
              replace hn := hide hn
              clear hmd he
              by_cases hj0 : j = 0
              · have hjb : (j == 0) = true := by simp [hj0]
                have hjb2 : decide (j = 0) = true := by simp [hj0]
                replace hj0 := hide hj0
                go_wp2_with (go_at_call 107; (with_reducible refine (KD.out _).mono ?_); intro _)
                go_roundw
                case rel =>
                  refine ⟨k + 1, by go_num, by omega, by rw [hjk.out]; simp, hide ⟨?_, ?_⟩⟩
                  · rw [hjk.out]
                    refine ⟨(by repeat (first | with_reducible exact HB.out.1 | with_reducible exact Up.refl _ | apply Up.ext | apply Up.alloc | apply Up.drew | (refine Up.setCell ?_ (by simp [World.setCell]; try omega) _))), (by repeat (first | with_reducible exact HB.out.2.1 | apply Box.ext | apply Box.drew | apply Box.alloc | (refine Box.other ?_ (by simp; try omega) _ _))), (by repeat (first | with_reducible exact HB.out.2.2.1 | apply Box.ext | apply Box.drew | apply Box.alloc | (refine Box.other ?_ (by simp; try omega) _ _))), ?_, (by repeat (first | with_reducible exact HB.out.2.2.2.2.1 | apply Box.ext | apply Box.drew | apply Box.alloc | (refine Box.other ?_ (by simp; try omega) _ _)))⟩
                    rw [show accR m (j + 1) = (1152921504606846976, 1152921504606846976) by rw [hj0.out]; exact accR_one (by rw [← hj0.out]; exact HMD.out)]
                    exact (by (repeat (first | with_reducible apply Box.ext | with_reducible apply Box.alloc | with_reducible apply Box.drew)); exact ((HB.out.2.2.2.1.set 0 (.int .i64 1152921504606846976)).set 1 (.int .i64 1152921504606846976)))
                  · exact (by repeat (first | with_reducible exact HB.out.2.2.2.2.2 | apply Box.ext | apply Box.drew | apply Box.alloc | (refine Box.other ?_ (by simp; try omega) _ _)))
                case measure => simp [intOf]; omega
              · have hjb : (j == 0) = false := by simp [hj0]
                have hjb2 : decide (j = 0) = false := by simp [hj0]
                have HN := hide (accR_next hj0 HO.out HMD.out)
                replace hj0 := hide hj0
                by_cases hl : 1152921504606846976 < O1
                · have hlb : decide (1152921504606846976 < O1) = true := by simp; omega
                  by_cases hh : O2 < 1152921504606846976
                  · have hhb : decide (O2 < 1152921504606846976) = true := by simp; omega
                    have HE := hide (show accR m (j + 1) = (1152921504606846976, 1152921504606846976) by rw [HN.out]; apply Prod.ext <;> simp only <;> omega)
                    replace hl := hide hl
                    replace hh := hide hh
                    go_wp2_with (go_at_call 107; (with_reducible refine (KD.out _).mono ?_); intro _)
                    go_roundw
                    case rel =>
                      refine ⟨k + 1, by go_num, by omega, by rw [hjk.out]; simp, hide ⟨?_, ?_⟩⟩
                      · rw [hjk.out]
                        refine ⟨(by repeat (first | with_reducible exact HB.out.1 | with_reducible exact Up.refl _ | apply Up.ext | apply Up.alloc | apply Up.drew | (refine Up.setCell ?_ (by simp [World.setCell]; try omega) _))), (by repeat (first | with_reducible exact HB.out.2.1 | apply Box.ext | apply Box.drew | apply Box.alloc | (refine Box.other ?_ (by simp; try omega) _ _))), (by repeat (first | with_reducible exact HB.out.2.2.1 | apply Box.ext | apply Box.drew | apply Box.alloc | (refine Box.other ?_ (by simp; try omega) _ _))), ?_, (by repeat (first | with_reducible exact HB.out.2.2.2.2.1 | apply Box.ext | apply Box.drew | apply Box.alloc | (refine Box.other ?_ (by simp; try omega) _ _)))⟩
                        rw [HE.out]
                        exact (by (repeat (first | with_reducible apply Box.ext | with_reducible apply Box.alloc | with_reducible apply Box.drew)); exact ((HB.out.2.2.2.1.set 0 (.int .i64 1152921504606846976)).set 1 (.int .i64 1152921504606846976)))
                      · exact (by repeat (first | with_reducible exact HB.out.2.2.2.2.2 | apply Box.ext | apply Box.drew | apply Box.alloc | (refine Box.other ?_ (by simp; try omega) _ _)))
                    case measure => simp [intOf]; omega
                  · have hhb : decide (O2 < 1152921504606846976) = false := by simp; omega
                    have HE := hide (show accR m (j + 1) = (1152921504606846976, O2) by rw [HN.out]; apply Prod.ext <;> simp only <;> omega)
                    replace hl := hide hl
                    replace hh := hide hh
                    go_wp2_with (go_at_call 107; (with_reducible refine (KD.out _).mono ?_); intro _)
                    go_roundw
                    case rel =>
                      refine ⟨k + 1, by go_num, by omega, by rw [hjk.out]; simp, hide ⟨?_, ?_⟩⟩
                      · rw [hjk.out]
                        refine ⟨(by repeat (first | with_reducible exact HB.out.1 | with_reducible exact Up.refl _ | apply Up.ext | apply Up.alloc | apply Up.drew | (refine Up.setCell ?_ (by simp [World.setCell]; try omega) _))), (by repeat (first | with_reducible exact HB.out.2.1 | apply Box.ext | apply Box.drew | apply Box.alloc | (refine Box.other ?_ (by simp; try omega) _ _))), (by repeat (first | with_reducible exact HB.out.2.2.1 | apply Box.ext | apply Box.drew | apply Box.alloc | (refine Box.other ?_ (by simp; try omega) _ _))), ?_, (by repeat (first | with_reducible exact HB.out.2.2.2.2.1 | apply Box.ext | apply Box.drew | apply Box.alloc | (refine Box.other ?_ (by simp; try omega) _ _)))⟩
                        rw [HE.out]
                        exact (by (repeat (first | with_reducible apply Box.ext | with_reducible apply Box.alloc | with_reducible apply Box.drew)); exact (HB.out.2.2.2.1.set 0 (.int .i64 1152921504606846976)))
                      · exact (by repeat (first | with_reducible exact HB.out.2.2.2.2.2 | apply Box.ext | apply Box.drew | apply Box.alloc | (refine Box.other ?_ (by simp; try omega) _ _)))
                    case measure => simp [intOf]; omega
                · have hlb : decide (1152921504606846976 < O1) = false := by simp; omega
                  by_cases hh : O2 < 1152921504606846976
                  · have hhb : decide (O2 < 1152921504606846976) = true := by simp; omega
                    have HE := hide (show accR m (j + 1) = (O1, 1152921504606846976) by rw [HN.out]; apply Prod.ext <;> simp only <;> omega)
                    replace hl := hide hl
                    replace hh := hide hh
                    go_wp2_with (go_at_call 107; (with_reducible refine (KD.out _).mono ?_); intro _)
                    go_roundw
                    case rel =>
                      refine ⟨k + 1, by go_num, by omega, by rw [hjk.out]; simp, hide ⟨?_, ?_⟩⟩
                      · rw [hjk.out]
                        refine ⟨(by repeat (first | with_reducible exact HB.out.1 | with_reducible exact Up.refl _ | apply Up.ext | apply Up.alloc | apply Up.drew | (refine Up.setCell ?_ (by simp [World.setCell]; try omega) _))), (by repeat (first | with_reducible exact HB.out.2.1 | apply Box.ext | apply Box.drew | apply Box.alloc | (refine Box.other ?_ (by simp; try omega) _ _))), (by repeat (first | with_reducible exact HB.out.2.2.1 | apply Box.ext | apply Box.drew | apply Box.alloc | (refine Box.other ?_ (by simp; try omega) _ _))), ?_, (by repeat (first | with_reducible exact HB.out.2.2.2.2.1 | apply Box.ext | apply Box.drew | apply Box.alloc | (refine Box.other ?_ (by simp; try omega) _ _)))⟩
                        rw [HE.out]
                        exact (by (repeat (first | with_reducible apply Box.ext | with_reducible apply Box.alloc | with_reducible apply Box.drew)); exact (HB.out.2.2.2.1.set 1 (.int .i64 1152921504606846976)))
                      · exact (by repeat (first | with_reducible exact HB.out.2.2.2.2.2 | apply Box.ext | apply Box.drew | apply Box.alloc | (refine Box.other ?_ (by simp; try omega) _ _)))
                    case measure => simp [intOf]; omega
                  · have hhb : decide (O2 < 1152921504606846976) = false := by simp; omega
                    have HE := hide (show accR m (j + 1) = (O1, O2) by rw [HN.out]; apply Prod.ext <;> simp only <;> omega)
                    replace hl := hide hl
                    replace hh := hide hh
                    go_wp2_with (go_at_call 107; (with_reducible refine (KD.out _).mono ?_); intro _)
                    go_roundw
                    case rel =>
                      refine ⟨k + 1, by go_num, by omega, by rw [hjk.out]; simp, hide ⟨?_, ?_⟩⟩
                      · rw [hjk.out]
                        refine ⟨(by repeat (first | with_reducible exact HB.out.1 | with_reducible exact Up.refl _ | apply Up.ext | apply Up.alloc | apply Up.drew | (refine Up.setCell ?_ (by simp [World.setCell]; try omega) _))), (by repeat (first | with_reducible exact HB.out.2.1 | apply Box.ext | apply Box.drew | apply Box.alloc | (refine Box.other ?_ (by simp; try omega) _ _))), (by repeat (first | with_reducible exact HB.out.2.2.1 | apply Box.ext | apply Box.drew | apply Box.alloc | (refine Box.other ?_ (by simp; try omega) _ _))), ?_, (by repeat (first | with_reducible exact HB.out.2.2.2.2.1 | apply Box.ext | apply Box.drew | apply Box.alloc | (refine Box.other ?_ (by simp; try omega) _ _)))⟩
                        rw [HE.out]
                        exact (by (repeat (first | with_reducible apply Box.ext | with_reducible apply Box.alloc | with_reducible apply Box.drew)); exact HB.out.2.2.2.1)
                      · exact (by repeat (first | with_reducible exact HB.out.2.2.2.2.2 | apply Box.ext | apply Box.drew | apply Box.alloc | (refine Box.other ?_ (by simp; try omega) _ _)))
                    case measure => simp [intOf]; omega
        · have hkb : decide ((k : Int) < 2) = false := by simp; omega
          have hkn : decide (k < 2) = false := by simp; omega
          have hk2 := hide (show 2 * i + k = 2 * (i + 1) by omega)
          clear hu bq bz bo bx by0
          go_wp2_with fail
          go_roundw
          case rel => exact ⟨i + 1, by go_num, by omega, by rw [hk2.out]; simp, hide (by have := hT.out.1; rw [hk2.out] at this; exact this)⟩
          case measure => simp [intOf]; omega
    · have hib : decide ((i : Int) < 2) = false := by simp; omega
      have hin : decide (i < 2) = false := by simp; omega
      have hi2 : 2 * i = 4 := by omega
      rw [hi2] at bo
      have o0 := bo.cell 0 rfl
      have o1 := bo.cell 1 rfl
      have lo := bo.lt
      have z0 := bz.cell 0 rfl
      have z1 := bz.cell 1 rfl
      have fz0 := bz.frozen 0
      have fz1 := bz.frozen 1
      have lz := bz.lt
      have HF := hide ((bz.set 0 (.int .i64 (accR m 4).1)).set 1 (.int .i64 (accR m 4).2))
      have HU := hide hu
      clear hS hu bq bz bo bx hi2
      go_wp2_with fail
      have y0 := HF.out.cell 0 rfl
      have y1 := HF.out.cell 1 rfl
      (refine bodyPost_give (by repeat (first | with_reducible exact HU.out | with_reducible exact Up.refl _ | apply Up.ext | apply Up.alloc | apply Up.drew | (refine Up.setCell ?_ (by simp [World.setCell]; try omega) _))) rfl ⟨_, (by simp [results, Tryz.results79, go_sem, y0, y1]; rfl), ?_⟩)
      rfl
end Go.Proofs.YtbcgdhldkanecaaGreat
