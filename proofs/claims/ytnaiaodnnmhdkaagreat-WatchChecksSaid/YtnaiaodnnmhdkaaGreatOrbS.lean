/- Several texts in one. -/
import Derived.Test.YtnaiaodnnmhdkaaGreatSkyE
import Derived.Test.YtnaiaodnnmhdkaaGreatSkyR
import Derived.Test.YtnaiaodnnmhdkaaGreatFRefO
import Derived.Test.YtnaiaodnnmhdkaaGreatFRefS
/- Reference bolideref04: states, boxes, sets. Conditions: what lies in memory. -/
namespace Go.Proofs.YtnaiaodnnmhdkaaGreat
set_option linter.unusedVariables false
set_option linter.unusedSimpArgs false
open Go.RowKit Go.Shelf

set_option maxRecDepth 100000 in
set_option maxHeartbeats 4000000 in
theorem qguess_any (x y u v : Int) (w : World) : Gives Tryz.prog 218 #[.agg #[.int .i64 (x), .int .i64 (y), .int .i64 (u), .int .i64 (v)]] w (.bool (decide (stateE x y u v = 0))) := by
  have H1 := hide (fun W => snear_any x y W)
  have H3 := hide (fun W => sbetween_any u (-1048576) 1048576 W)
  have H4 := hide (fun W => sbetween_any v (-1048576) 1048576 W)
  have e : decide (stateE x y u v = 0) = (nearV 33554432 (x, y) && (withinB u (-1048576) 1048576 && withinB v (-1048576) 1048576)) := by
    unfold stateE nearV
    dsimp only
    cases withinB x (-33554432) 33554432 <;> cases withinB y (-33554432) 33554432 <;> cases withinB u (-1048576) 1048576 <;> cases withinB v (-1048576) 1048576 <;> rfl
  rw [e]
  clear e
  generalize nearV 33554432 (x, y) = A at *
  generalize withinB u (-1048576) 1048576 = C at *
  generalize withinB v (-1048576) 1048576 = D at *
  cases A <;> cases C <;> cases D
  all_goals
    (unfold Gives; go_enter Tryz.func218, Tryz.ntmps218)
    go_wp2_with (first | (go_at_call 69; (with_reducible refine (H1.out _).mono ?_); intro _) | (go_at_call 127; (with_reducible refine (H3.out _).mono ?_); intro _) | (go_at_call 127; (with_reducible refine (H4.out _).mono ?_); intro _))
    go_ret
    exact ⟨rfl, (by repeat (first | with_reducible exact Up.refl _ | with_reducible apply Up.plus | apply Up.ext | apply Up.alloc | apply Up.drew | (refine Up.setCell ?_ (by simp; try omega) _)))⟩
set_option maxRecDepth 100000 in
set_option maxHeartbeats 4000000 in
theorem qstate_any (x y u v : Int) (w : World) : Gives Tryz.prog 199 #[.agg #[.int .i64 (x), .int .i64 (y), .int .i64 (u), .int .i64 (v)]] w (.int .i64 (stateE x y u v)) := by
  have HG := hide (fun W => qguess_any x y u v W)
  rcases stateE_two x y u v with h | h
  · rw [h] at HG ⊢
    rw [show decide ((0 : Int) = 0) = true from rfl] at HG
    (unfold Gives; go_enter Tryz.func199, Tryz.ntmps199)
    go_wp2_with (go_at_call 218; (with_reducible refine (HG.out _).mono ?_); intro _)
    go_ret
    exact ⟨rfl, (by repeat (first | with_reducible exact Up.refl _ | with_reducible apply Up.plus | apply Up.ext | apply Up.alloc | apply Up.drew | (refine Up.setCell ?_ (by simp; try omega) _)))⟩
  · rw [h] at HG ⊢
    rw [show decide ((2 : Int) = 0) = false from rfl] at HG
    (unfold Gives; go_enter Tryz.func199, Tryz.ntmps199)
    go_wp2_with (go_at_call 218; (with_reducible refine (HG.out _).mono ?_); intro _)
    go_ret
    exact ⟨rfl, (by repeat (first | with_reducible exact Up.refl _ | with_reducible apply Up.plus | apply Up.ext | apply Up.alloc | apply Up.drew | (refine Up.setCell ?_ (by simp; try omega) _)))⟩
set_option maxRecDepth 100000 in
set_option maxHeartbeats 4000000 in
theorem qlow_any (x0 x1 y0 y1 u0 u1 v0 v1 : Int) (w : World) : Gives Tryz.prog 200 #[.agg #[.int .i64 (x0), .int .i64 (x1), .int .i64 (y0), .int .i64 (y1), .int .i64 (u0), .int .i64 (u1), .int .i64 (v0), .int .i64 (v1)]] w (.agg #[.int .i64 (x0), .int .i64 (y0), .int .i64 (u0), .int .i64 (v0)]) := by
  (unfold Gives; go_enter Tryz.func200, Tryz.ntmps200)
  go_wp2
  all_goals (refine bodyPost_give (by repeat (first | with_reducible exact Up.refl _ | with_reducible apply Up.plus | apply Up.ext | apply Up.alloc | apply Up.drew | (refine Up.setCell ?_ (by simp; try omega) _))) rfl ⟨_, (by simp [results, Tryz.results200, go_sem]; rfl), ?_⟩)
  all_goals rfl
set_option maxRecDepth 100000 in
set_option maxHeartbeats 4000000 in
theorem qhigh_any (x0 x1 y0 y1 u0 u1 v0 v1 : Int) (w : World) : Gives Tryz.prog 201 #[.agg #[.int .i64 (x0), .int .i64 (x1), .int .i64 (y0), .int .i64 (y1), .int .i64 (u0), .int .i64 (u1), .int .i64 (v0), .int .i64 (v1)]] w (.agg #[.int .i64 (x1), .int .i64 (y1), .int .i64 (u1), .int .i64 (v1)]) := by
  (unfold Gives; go_enter Tryz.func201, Tryz.ntmps201)
  go_wp2
  all_goals (refine bodyPost_give (by repeat (first | with_reducible exact Up.refl _ | with_reducible apply Up.plus | apply Up.ext | apply Up.alloc | apply Up.drew | (refine Up.setCell ?_ (by simp; try omega) _))) rfl ⟨_, (by simp [results, Tryz.results201, go_sem]; rfl), ?_⟩)
  all_goals rfl
set_option maxRecDepth 100000 in
set_option maxHeartbeats 4000000 in
theorem qfull_any (b : BoxD) (w : World) : Gives Tryz.prog 198 #[.agg (boxA b)] w (.bool (fullB b)) := by
  obtain ⟨x0, x1, y0, y1, u0, u1, v0, v1⟩ := b
  unfold fullB boxA
  dsimp only
  by_cases h1 : x0 ≤ x1
  rotate_left
  · have d1 : decide (x0 ≤ x1) = false := decide_eq_false h1
    rw [d1]
    (unfold Gives; go_enter Tryz.func198, Tryz.ntmps198)
    go_wp2
    go_ret
    exact ⟨rfl, (by repeat (first | with_reducible exact Up.refl _ | with_reducible apply Up.plus | apply Up.ext | apply Up.alloc | apply Up.drew | (refine Up.setCell ?_ (by simp; try omega) _)))⟩
  have d1 : decide (x0 ≤ x1) = true := decide_eq_true h1
  by_cases h2 : y0 ≤ y1
  rotate_left
  · have d2 : decide (y0 ≤ y1) = false := decide_eq_false h2
    rw [d1, d2]
    (unfold Gives; go_enter Tryz.func198, Tryz.ntmps198)
    go_wp2
    go_ret
    exact ⟨rfl, (by repeat (first | with_reducible exact Up.refl _ | with_reducible apply Up.plus | apply Up.ext | apply Up.alloc | apply Up.drew | (refine Up.setCell ?_ (by simp; try omega) _)))⟩
  have d2 : decide (y0 ≤ y1) = true := decide_eq_true h2
  by_cases h3 : u0 ≤ u1
  rotate_left
  · have d3 : decide (u0 ≤ u1) = false := decide_eq_false h3
    rw [d1, d2, d3]
    (unfold Gives; go_enter Tryz.func198, Tryz.ntmps198)
    go_wp2
    go_ret
    exact ⟨rfl, (by repeat (first | with_reducible exact Up.refl _ | with_reducible apply Up.plus | apply Up.ext | apply Up.alloc | apply Up.drew | (refine Up.setCell ?_ (by simp; try omega) _)))⟩
  have d3 : decide (u0 ≤ u1) = true := decide_eq_true h3
  by_cases h4 : v0 ≤ v1
  · have d4 : decide (v0 ≤ v1) = true := decide_eq_true h4
    rw [d1, d2, d3, d4]
    (unfold Gives; go_enter Tryz.func198, Tryz.ntmps198)
    go_wp2
    go_ret
    exact ⟨rfl, (by repeat (first | with_reducible exact Up.refl _ | with_reducible apply Up.plus | apply Up.ext | apply Up.alloc | apply Up.drew | (refine Up.setCell ?_ (by simp; try omega) _)))⟩
  · have d4 : decide (v0 ≤ v1) = false := decide_eq_false h4
    rw [d1, d2, d3, d4]
    (unfold Gives; go_enter Tryz.func198, Tryz.ntmps198)
    go_wp2
    go_ret
    exact ⟨rfl, (by repeat (first | with_reducible exact Up.refl _ | with_reducible apply Up.plus | apply Up.ext | apply Up.alloc | apply Up.drew | (refine Up.setCell ?_ (by simp; try omega) _)))⟩
set_option maxRecDepth 100000 in
set_option maxHeartbeats 4000000 in
theorem qbox_any (b : BoxD) (w : World) : Gives Tryz.prog 178 #[.agg (boxA b)] w (.int .i64 (boxE b)) := by
  have HF := hide (fun W => qfull_any b W)
  obtain ⟨x0, x1, y0, y1, u0, u1, v0, v1⟩ := b
  have HL := hide (fun W => qlow_any x0 x1 y0 y1 u0 u1 v0 v1 W)
  have HH := hide (fun W => qhigh_any x0 x1 y0 y1 u0 u1 v0 v1 W)
  have HS1 := hide (fun W => qstate_any x0 y0 u0 v0 W)
  have HS2 := hide (fun W => qstate_any x1 y1 u1 v1 W)
  have s1 := stateE_two x0 y0 u0 v0
  have s2 := stateE_two x1 y1 u1 v1
  unfold boxE boxA at *
  dsimp only at *
  generalize fullB ⟨x0, x1, y0, y1, u0, u1, v0, v1⟩ = F at *
  generalize stateE x0 y0 u0 v0 = L at *
  generalize stateE x1 y1 u1 v1 = M at *
  cases F
  · rw [if_neg (by simp)]
    clear s1 s2
    (unfold Gives; go_enter Tryz.func178, Tryz.ntmps178)
    go_wp2_with (go_at_call 198; (with_reducible refine (HF.out _).mono ?_); intro _)
    go_ret
    exact ⟨rfl, (by repeat (first | with_reducible exact Up.refl _ | with_reducible apply Up.plus | apply Up.ext | apply Up.alloc | apply Up.drew | (refine Up.setCell ?_ (by simp; try omega) _)))⟩
  rw [if_pos rfl]
  rcases s1 with rfl | rfl
  rotate_left
  · rw [if_neg (by decide)]
    clear s2
    (unfold Gives; go_enter Tryz.func178, Tryz.ntmps178)
    go_wp2_with (first | (go_at_call 198; (with_reducible refine (HF.out _).mono ?_); intro _) | (go_at_call 200; (with_reducible refine (HL.out _).mono ?_); intro _) | (go_at_call 201; (with_reducible refine (HH.out _).mono ?_); intro _) | (go_at_call 199; (with_reducible refine (HS1.out _).mono ?_); intro _) | (go_at_call 199; (with_reducible refine (HS2.out _).mono ?_); intro _))
    go_ret
    exact ⟨rfl, (by repeat (first | with_reducible exact Up.refl _ | with_reducible apply Up.plus | apply Up.ext | apply Up.alloc | apply Up.drew | (refine Up.setCell ?_ (by simp; try omega) _)))⟩
  rw [if_pos rfl]
  rcases s2 with rfl | rfl
  · rw [if_pos rfl]
    (unfold Gives; go_enter Tryz.func178, Tryz.ntmps178)
    go_wp2_with (first | (go_at_call 198; (with_reducible refine (HF.out _).mono ?_); intro _) | (go_at_call 200; (with_reducible refine (HL.out _).mono ?_); intro _) | (go_at_call 201; (with_reducible refine (HH.out _).mono ?_); intro _) | (go_at_call 199; (with_reducible refine (HS1.out _).mono ?_); intro _) | (go_at_call 199; (with_reducible refine (HS2.out _).mono ?_); intro _))
    go_ret
    exact ⟨rfl, (by repeat (first | with_reducible exact Up.refl _ | with_reducible apply Up.plus | apply Up.ext | apply Up.alloc | apply Up.drew | (refine Up.setCell ?_ (by simp; try omega) _)))⟩
  · rw [if_neg (by decide)]
    (unfold Gives; go_enter Tryz.func178, Tryz.ntmps178)
    go_wp2_with (first | (go_at_call 198; (with_reducible refine (HF.out _).mono ?_); intro _) | (go_at_call 200; (with_reducible refine (HL.out _).mono ?_); intro _) | (go_at_call 201; (with_reducible refine (HH.out _).mono ?_); intro _) | (go_at_call 199; (with_reducible refine (HS1.out _).mono ?_); intro _) | (go_at_call 199; (with_reducible refine (HS2.out _).mono ?_); intro _))
    go_ret
    exact ⟨rfl, (by repeat (first | with_reducible exact Up.refl _ | with_reducible apply Up.plus | apply Up.ext | apply Up.alloc | apply Up.drew | (refine Up.setCell ?_ (by simp; try omega) _)))⟩
set_option maxRecDepth 100000 in
set_option maxHeartbeats 4000000 in
theorem qset_any {K : Nat → Prop} {w : World} {a : Option Addr} {n c : Nat} {l : List BoxD} (hl : Boxes K w (.slice a n c) l) : Gives Tryz.prog 146 #[.slice a n c] w (.int .i64 (setE l)) := by
  have hn := (Boxes.at hl).1
  have hm := (Boxes.at hl).2.1
  by_cases z5 : 512 < n
  · have hE : setE l = 8 := by unfold setE; rw [if_pos (by omega)]
    rw [hE]
    have d0 : decide ((512 : Int) < n) = true := by simp; omega
    have d1 : decide (512 < n) = true := by simp; omega
    clear hE hl hn
    (unfold Gives; go_enter Tryz.func146, Tryz.ntmps146)
    go_wp2
    go_ret
    exact ⟨rfl, (by repeat (first | with_reducible exact Up.refl _ | with_reducible apply Up.plus | apply Up.ext | apply Up.alloc | apply Up.drew | (refine Up.setCell ?_ (by simp; try omega) _)))⟩
  have hE : setE l = firstE boxE l := by unfold setE; rw [if_neg (by omega)]
  rw [hE]
  have d0 : decide ((512 : Int) < n) = false := by simp; omega
  have HL := hide hl
  have HN := hide hn
  clear hE hl hn
  (unfold Gives; go_enter Tryz.func146, Tryz.ntmps146)
  go_wp2
  go_loopw [3] (fun s wr => ∃ k : Nat, k ≤ n ∧ s = .int .i64 k ∧ Hid (Up w wr ∧ noneYet (fun x => boxE x != 0) l k)) (fun s _ => n - (intOf s).toNat)
  case atStart => exact ⟨0, by omega, rfl, hide ⟨Up.refl _, fun i p hi _ => by omega⟩⟩
  case round =>
    obtain ⟨k, hk, rfl, HI⟩ := hrel
    by_cases hlt : k < n
    · obtain ⟨b, o, p, rfl, hKb, hbw, hp, c0, c1, c2, c3, c4, c5, c6, c7⟩ := (Boxes.at (HL.out.keeps (HI.out.1.keeps K))).2.2 k hlt
      have hkb : decide ((k : Int) < n) = true := by simp; omega
      have hkn : decide (k < n) = true := by simp; omega
      have HP := hide hp
      clear hp hKb
      by_cases hF : boxE p = 0
      · have hF' : (boxE p != 0) = false := by simp [hF]
        have HS := hide hF
        clear hF
        go_wp2_with (go_at_call 178; (with_reducible refine (qbox_any _ _).mono ?_); intro _)
        go_roundw
        case rel => exact ⟨k + 1, by omega, by go_num, hide ⟨HI.out.1.trans (by repeat (first | with_reducible exact Up.refl _ | with_reducible apply Up.plus | apply Up.ext | apply Up.alloc | apply Up.drew | (refine Up.setCell ?_ (by simp; try omega) _))), HI.out.2.succ HP.out (by simpa using HS.out)⟩⟩
        case measure => simp [intOf]; omega
      · have hF' : (boxE p != 0) = true := by simp [hF]
        have HS := hide hF
        clear hF
        go_wp2_with (go_at_call 178; (with_reducible refine (qbox_any _ _).mono ?_); intro _)
        go_ret
        refine ⟨ret_int ?_, HI.out.1.trans (by repeat (first | with_reducible exact Up.refl _ | with_reducible apply Up.plus | apply Up.ext | apply Up.alloc | apply Up.drew | (refine Up.setCell ?_ (by simp; try omega) _)))⟩
        rw [firstE_found HI.out.2 HP.out HS.out]
    · have hkb : decide ((k : Int) < n) = false := by simp; omega
      have hkn : decide (k < n) = false := by simp; omega
      obtain rfl : k = n := by omega
      have HF := hide (show firstE boxE l = 0 from firstE_none (by rw [← HN.out]; exact HI.out.2))
      go_wp2
      go_ret
      exact ⟨ret_int (by rw [HF.out]), HI.out.1.trans (by repeat (first | with_reducible exact Up.refl _ | with_reducible apply Up.plus | apply Up.ext | apply Up.alloc | apply Up.drew | (refine Up.setCell ?_ (by simp; try omega) _)))⟩
set_option maxRecDepth 100000 in
set_option maxHeartbeats 4000000 in
theorem qworld_any {K : Nat → Prop} {w : World} {a : Option Addr} {n c : Nat} {bs : List Bod} {home : Int} (hl : Bods K w (.slice a n c) bs) (hh : I64 home) (d : DriftD) : Gives Tryz.prog 144 #[.agg #[.slice a n c, .int .i64 home], .agg #[.int .i64 (d.l.1), .int .i64 (d.l.2), .int .i64 (d.h.1), .int .i64 (d.h.2), .int .i64 (d.g)]] w (.int .i64 (worldDE bs home d)) := by
  have HW := hide (fun W (hu : Up w W) => sworld_any (hl.keeps (hu.keeps K)) hh)
  have HD := hide (fun W => g_drift d.l.1 d.l.2 d.h.1 d.h.2 d.g W)
  unfold worldDE
  rw [show driftE d.l d.h d.g = driftE (d.l.1, d.l.2) (d.h.1, d.h.2) d.g from rfl]
  generalize driftE (d.l.1, d.l.2) (d.h.1, d.h.2) d.g = D at *
  by_cases he : worldE bs home = 0
  · rw [if_pos he]
    rw [he] at HW
    clear hl hh he
    (unfold Gives; go_enter Tryz.func144, Tryz.ntmps144)
    go_wp2_with (first | (go_at_call 126; (with_reducible refine (HW.out _ (by repeat (first | with_reducible exact Up.refl _ | with_reducible apply Up.plus | apply Up.ext | apply Up.alloc | apply Up.drew | (refine Up.setCell ?_ (by simp; try omega) _)))).mono ?_); intro _) | (go_at_call 177; (with_reducible refine (HD.out _).mono ?_); intro _))
    go_ret
    exact ⟨rfl, (by repeat (first | with_reducible exact Up.refl _ | with_reducible apply Up.plus | apply Up.ext | apply Up.alloc | apply Up.drew | (refine Up.setCell ?_ (by simp; try omega) _)))⟩
  · rw [if_neg he]
    have heb : (worldE bs home != 0) = true := by simp [he]
    generalize worldE bs home = E at *
    clear hl hh he
    (unfold Gives; go_enter Tryz.func144, Tryz.ntmps144)
    go_wp2_with (first | (go_at_call 126; (with_reducible refine (HW.out _ (by repeat (first | with_reducible exact Up.refl _ | with_reducible apply Up.plus | apply Up.ext | apply Up.alloc | apply Up.drew | (refine Up.setCell ?_ (by simp; try omega) _)))).mono ?_); intro _) | (go_at_call 177; (with_reducible refine (HD.out _).mono ?_); intro _))
    go_ret
    exact ⟨rfl, (by repeat (first | with_reducible exact Up.refl _ | with_reducible apply Up.plus | apply Up.ext | apply Up.alloc | apply Up.drew | (refine Up.setCell ?_ (by simp; try omega) _)))⟩
set_option maxRecDepth 100000 in
set_option maxHeartbeats 4000000 in
theorem qsum_any {a b c d : Int} (h1 : -4000000000000000000 ≤ a ∧ a ≤ 4000000000000000000) (h2 : -4000000000000000000 ≤ b ∧ b ≤ 4000000000000000000) (h3 : -4000000000000000000 ≤ c ∧ c ≤ 4000000000000000000) (h4 : -4000000000000000000 ≤ d ∧ d ≤ 4000000000000000000) (w : World) : Gives Tryz.prog 202 #[.agg #[.int .i64 (a), .int .i64 (b)], .agg #[.int .i64 (c), .int .i64 (d)]] w (.agg #[.int .i64 ((a + c)), .int .i64 ((b + d))]) := by
  (unfold Gives; go_enter Tryz.func202, Tryz.ntmps202)
  go_wp2
  all_goals (refine bodyPost_give (by repeat (first | with_reducible exact Up.refl _ | with_reducible apply Up.plus | apply Up.ext | apply Up.alloc | apply Up.drew | (refine Up.setCell ?_ (by simp; try omega) _))) rfl ⟨_, (by simp [results, Tryz.results202, go_sem]; rfl), ?_⟩)
  all_goals rfl
set_option maxRecDepth 100000 in
set_option maxHeartbeats 4000000 in
theorem qspan_any (t m : Int) (hm : -9223372036854775808 ≤ m ∧ m ≤ 9223372036854775807) (w : World) : Gives Tryz.prog 145 #[.int .i64 t, .int .i64 m] w (.bool (decide (spanE t m = 0))) := by
  unfold spanE
  by_cases h0 : 0 ≤ m
  rotate_left
  · rw [if_neg (show ¬ (0 ≤ m ∧ m ≤ 400 ∧ 0 ≤ t ∧ t ≤ 1073741824 - m) by omega)]
    have d0 : decide (0 ≤ m) = false := decide_eq_false h0
    (unfold Gives; go_enter Tryz.func145, Tryz.ntmps145)
    go_wp2
    go_ret
    exact ⟨rfl, (by repeat (first | with_reducible exact Up.refl _ | with_reducible apply Up.plus | apply Up.ext | apply Up.alloc | apply Up.drew | (refine Up.setCell ?_ (by simp; try omega) _)))⟩
  have d0 : decide (0 ≤ m) = true := decide_eq_true h0
  by_cases h1 : m ≤ 400
  rotate_left
  · rw [if_neg (show ¬ (0 ≤ m ∧ m ≤ 400 ∧ 0 ≤ t ∧ t ≤ 1073741824 - m) by omega)]
    have d1 : decide (m ≤ 400) = false := decide_eq_false h1
    (unfold Gives; go_enter Tryz.func145, Tryz.ntmps145)
    go_wp2
    go_ret
    exact ⟨rfl, (by repeat (first | with_reducible exact Up.refl _ | with_reducible apply Up.plus | apply Up.ext | apply Up.alloc | apply Up.drew | (refine Up.setCell ?_ (by simp; try omega) _)))⟩
  have d1 : decide (m ≤ 400) = true := decide_eq_true h1
  by_cases h2 : 0 ≤ t
  rotate_left
  · rw [if_neg (show ¬ (0 ≤ m ∧ m ≤ 400 ∧ 0 ≤ t ∧ t ≤ 1073741824 - m) by omega)]
    have d2 : decide (0 ≤ t) = false := decide_eq_false h2
    (unfold Gives; go_enter Tryz.func145, Tryz.ntmps145)
    go_wp2
    go_ret
    exact ⟨rfl, (by repeat (first | with_reducible exact Up.refl _ | with_reducible apply Up.plus | apply Up.ext | apply Up.alloc | apply Up.drew | (refine Up.setCell ?_ (by simp; try omega) _)))⟩
  have d2 : decide (0 ≤ t) = true := decide_eq_true h2
  by_cases h3 : t ≤ 1073741824 - m
  · rw [if_pos (show 0 ≤ m ∧ m ≤ 400 ∧ 0 ≤ t ∧ t ≤ 1073741824 - m by omega)]
    have d3 : decide (t ≤ 1073741824 - m) = true := decide_eq_true h3
    (unfold Gives; go_enter Tryz.func145, Tryz.ntmps145)
    go_wp2
    go_ret
    exact ⟨rfl, (by repeat (first | with_reducible exact Up.refl _ | with_reducible apply Up.plus | apply Up.ext | apply Up.alloc | apply Up.drew | (refine Up.setCell ?_ (by simp; try omega) _)))⟩
  · rw [if_neg (show ¬ (0 ≤ m ∧ m ≤ 400 ∧ 0 ≤ t ∧ t ≤ 1073741824 - m) by omega)]
    have d3 : decide (t ≤ 1073741824 - m) = false := decide_eq_false h3
    (unfold Gives; go_enter Tryz.func145, Tryz.ntmps145)
    go_wp2
    go_ret
    exact ⟨rfl, (by repeat (first | with_reducible exact Up.refl _ | with_reducible apply Up.plus | apply Up.ext | apply Up.alloc | apply Up.drew | (refine Up.setCell ?_ (by simp; try omega) _)))⟩
end Go.Proofs.YtnaiaodnnmhdkaaGreat

/- Reference bolideref04: steps. Conditions: what lies in memory, valid boxes. -/
namespace Go.Proofs.YtnaiaodnnmhdkaaGreat
set_option linter.unusedVariables false
set_option linter.unusedSimpArgs false
open Go.RowKit Go.Shelf

set_option maxRecDepth 100000 in
set_option maxHeartbeats 20000000 in
theorem qstep_any {K : Nat → Prop} {w : World} {a : Option Addr} {n c : Nat} {bs : List Bod} {home : Int} (hl : Bods K w (.slice a n c) bs) (hh : I64 home) (d : DriftD) (hw : worldDE bs home d = 0) {t : Int} (ht : 0 ≤ t ∧ t ≤ 1073741824) {b : BoxD} (hb : BOk b) : Gives Tryz.prog 179 #[.agg #[.slice a n c, .int .i64 home], .agg #[.int .i64 (d.l.1), .int .i64 (d.l.2), .int .i64 (d.h.1), .int .i64 (d.h.2), .int .i64 (d.g)], .int .i64 t, .agg (boxA b)] w (.agg (boxA (stepV bs d t b))) := by
  have HO := hide (fun W (hu : Up w W) => g_Over (hl.keeps (hu.keeps K)) hh d.l d.h d.g t (areaX b))
  rw [over_ok hw ht hb] at HO
  obtain ⟨a0, a1, a2, a3, hov, ha, hav, hst⟩ := step_bd (t := t) hw hb
  rw [hov] at HO
  rw [hst]
  obtain ⟨x0, x1, y0, y1, u0, u1, v0, v1⟩ := b
  obtain ⟨bx, byy, bu, bv⟩ := hb
  unfold boxA areaX at *
  dsimp only at *
  have HU := hide (fun W => qsum_any (a := u0) (b := u1) (c := a0) (d := a1) (by omega) (by omega) (by omega) (by omega) W)
  have HV := hide (fun W => qsum_any (a := v0) (b := v1) (c := a2) (d := a3) (by omega) (by omega) (by omega) (by omega) W)
  have HX := hide (fun W => qsum_any (a := x0) (b := x1) (c := u0 + a0) (d := u1 + a1) (by omega) (by omega) (by omega) (by omega) W)
  have HY := hide (fun W => qsum_any (a := y0) (b := y1) (c := v0 + a2) (d := v1 + a3) (by omega) (by omega) (by omega) (by omega) W)
  generalize u0 + a0 = p0 at *
  generalize u1 + a1 = p1 at *
  generalize v0 + a2 = q0 at *
  generalize v1 + a3 = q1 at *
  generalize x0 + p0 = m0 at *
  generalize x1 + p1 = m1 at *
  generalize y0 + q0 = n0 at *
  generalize y1 + q1 = n1 at *
  clear hl hw ht hov ha hav hst bx byy bu bv
  (unfold Gives; go_enter Tryz.func179, Tryz.ntmps179)
  go_wp2_with fail
  go_at_call 185
  refine forgetK (fun wr => Up w wr ∧ Box wr w.heap.size #[.slice a n c, .int .i64 home] 24 ∧ Box wr (w.heap.size + 1) #[.int .i64 (d.l.1), .int .i64 (d.l.2), .int .i64 (d.h.1), .int .i64 (d.h.2), .int .i64 (d.g)] 68 ∧ Box wr (w.heap.size + 1 + 1) #[.int .i64 (x0), .int .i64 (x1), .int .i64 (y0), .int .i64 (y1), .int .i64 (u0), .int .i64 (u1), .int .i64 (v0), .int .i64 (v1)] 91 ∧ Box wr (w.heap.size + 1 + 1 + 1) #[.int .i64 (0), .int .i64 (0), .int .i64 (0), .int .i64 (0), .int .i64 (0), .int .i64 (0), .int .i64 (0), .int .i64 (0)] 91) ⟨(by repeat (first | with_reducible exact Up.refl _ | with_reducible apply Up.plus | apply Up.ext | apply Up.alloc | apply Up.drew | (refine Up.setCell ?_ (by simp; try omega) _))), (by repeat (first | exact Box.mk rfl | (refine Box.mk ?_; simp; done) | apply Box.ext | apply Box.drew | apply Box.alloc | apply Box.two1 | (refine Box.other ?_ (by omega) _ _))), (by repeat (first | exact Box.mk rfl | (refine Box.mk ?_; simp; done) | apply Box.ext | apply Box.drew | apply Box.alloc | apply Box.two1 | (refine Box.other ?_ (by omega) _ _))), (by repeat (first | exact Box.mk rfl | (refine Box.mk ?_; simp; done) | apply Box.ext | apply Box.drew | apply Box.alloc | apply Box.two1 | (refine Box.other ?_ (by omega) _ _))), (by repeat (first | exact Box.mk rfl | (refine Box.mk ?_; simp; done) | apply Box.ext | apply Box.drew | apply Box.alloc | apply Box.two1 | (refine Box.other ?_ (by omega) _ _)))⟩ ?_
  rintro V0 ⟨hu, b0, b1, b2, b3⟩
  have HB0 := hide (And.intro hu (And.intro b0 (And.intro b1 (And.intro b2 b3))))
  clear hu b0 b1 b2 b3
  have w0 := (HB0.out.2.1).cell 0 rfl
  have w1 := (HB0.out.2.1).cell 1 rfl
  have lw := (HB0.out.2.1).lt
  have dd0 := (HB0.out.2.2.1).cell 0 rfl
  have dd1 := (HB0.out.2.2.1).cell 1 rfl
  have dd2 := (HB0.out.2.2.1).cell 2 rfl
  have dd3 := (HB0.out.2.2.1).cell 3 rfl
  have dd4 := (HB0.out.2.2.1).cell 4 rfl
  have ldd := (HB0.out.2.2.1).lt
  have b0 := (HB0.out.2.2.2.1).cell 0 rfl
  have b1 := (HB0.out.2.2.2.1).cell 1 rfl
  have b2 := (HB0.out.2.2.2.1).cell 2 rfl
  have b3 := (HB0.out.2.2.2.1).cell 3 rfl
  have b4 := (HB0.out.2.2.2.1).cell 4 rfl
  have b5 := (HB0.out.2.2.2.1).cell 5 rfl
  have b6 := (HB0.out.2.2.2.1).cell 6 rfl
  have b7 := (HB0.out.2.2.2.1).cell 7 rfl
  have lb := (HB0.out.2.2.2.1).lt
  have z0 := (HB0.out.2.2.2.2).cell 0 rfl
  have z1 := (HB0.out.2.2.2.2).cell 1 rfl
  have z2 := (HB0.out.2.2.2.2).cell 2 rfl
  have z3 := (HB0.out.2.2.2.2).cell 3 rfl
  have z4 := (HB0.out.2.2.2.2).cell 4 rfl
  have z5 := (HB0.out.2.2.2.2).cell 5 rfl
  have z6 := (HB0.out.2.2.2.2).cell 6 rfl
  have z7 := (HB0.out.2.2.2.2).cell 7 rfl
  have lz := (HB0.out.2.2.2.2).lt
  have fzz0 := (HB0.out.2.2.2.2).frozen 0
  have fzz1 := (HB0.out.2.2.2.2).frozen 1
  have fzz2 := (HB0.out.2.2.2.2).frozen 2
  have fzz3 := (HB0.out.2.2.2.2).frozen 3
  have fzz4 := (HB0.out.2.2.2.2).frozen 4
  have fzz5 := (HB0.out.2.2.2.2).frozen 5
  have fzz6 := (HB0.out.2.2.2.2).frozen 6
  have fzz7 := (HB0.out.2.2.2.2).frozen 7
  refine (HO.out _ (by repeat (first | with_reducible exact HB0.out.1 | with_reducible exact Up.refl _ | with_reducible apply Up.ext | with_reducible apply Up.alloc | with_reducible apply Up.drew | (with_reducible refine Up.setCell ?_ (by simp only; omega) _)))).mono ?_
  intro qa
  go_wp2_with fail
  obtain ⟨ga, hga⟩ : ∃ g, g = V0.heap.size + qa.os.size := ⟨_, rfl⟩
  try rw [← hga]
  have lga : w.heap.size + 1 + 1 + 1 < ga := by omega
  refine forgetW (fun wr => Up w wr ∧ Box wr w.heap.size #[.slice a n c, .int .i64 home] 24 ∧ Box wr (w.heap.size + 1) #[.int .i64 (d.l.1), .int .i64 (d.l.2), .int .i64 (d.h.1), .int .i64 (d.h.2), .int .i64 (d.g)] 68 ∧ Box wr (w.heap.size + 1 + 1) #[.int .i64 (x0), .int .i64 (x1), .int .i64 (y0), .int .i64 (y1), .int .i64 (u0), .int .i64 (u1), .int .i64 (v0), .int .i64 (v1)] 91 ∧ Box wr (w.heap.size + 1 + 1 + 1) #[.int .i64 (0), .int .i64 (0), .int .i64 (0), .int .i64 (0), .int .i64 (0), .int .i64 (0), .int .i64 (0), .int .i64 (0)] 91 ∧ Box wr ga #[.int .i64 (a0), .int .i64 (a1), .int .i64 (a2), .int .i64 (a3)] 46) ⟨(by repeat (first | with_reducible exact HB0.out.1 | with_reducible exact Up.refl _ | with_reducible apply Up.ext | with_reducible apply Up.alloc | with_reducible apply Up.drew | (with_reducible refine Up.setCell ?_ (by simp only; omega) _))), (by repeat (first | with_reducible exact HB0.out.2.1 | with_reducible apply Box.ext | with_reducible apply Box.alloc | with_reducible apply Box.drew | (with_reducible refine Box.other ?_ (by omega) _ _))), (by repeat (first | with_reducible exact HB0.out.2.2.1 | with_reducible apply Box.ext | with_reducible apply Box.alloc | with_reducible apply Box.drew | (with_reducible refine Box.other ?_ (by omega) _ _))), (by repeat (first | with_reducible exact HB0.out.2.2.2.1 | with_reducible apply Box.ext | with_reducible apply Box.alloc | with_reducible apply Box.drew | (with_reducible refine Box.other ?_ (by omega) _ _))), (by repeat (first | with_reducible exact HB0.out.2.2.2.2 | with_reducible apply Box.ext | with_reducible apply Box.alloc | with_reducible apply Box.drew | (with_reducible refine Box.other ?_ (by omega) _ _))), by rw [hga]; exact Box.mk (ext_size _ _)⟩ ?_
  clear HB0 w0 w1 lw dd0 dd1 dd2 dd3 dd4 ldd b0 b1 b2 b3 b4 b5 b6 b7 lb z0 z1 z2 z3 z4 z5 z6 z7 lz fzz0 fzz1 fzz2 fzz3 fzz4 fzz5 fzz6 fzz7
  clear hga
  rintro V1 ⟨hu, b0, b1, b2, b3, b4⟩
  have HB1 := hide (And.intro hu (And.intro b0 (And.intro b1 (And.intro b2 (And.intro b3 b4)))))
  clear hu b0 b1 b2 b3 b4
  have w0 := (HB1.out.2.1).cell 0 rfl
  have w1 := (HB1.out.2.1).cell 1 rfl
  have lw := (HB1.out.2.1).lt
  have dd0 := (HB1.out.2.2.1).cell 0 rfl
  have dd1 := (HB1.out.2.2.1).cell 1 rfl
  have dd2 := (HB1.out.2.2.1).cell 2 rfl
  have dd3 := (HB1.out.2.2.1).cell 3 rfl
  have dd4 := (HB1.out.2.2.1).cell 4 rfl
  have ldd := (HB1.out.2.2.1).lt
  have b0 := (HB1.out.2.2.2.1).cell 0 rfl
  have b1 := (HB1.out.2.2.2.1).cell 1 rfl
  have b2 := (HB1.out.2.2.2.1).cell 2 rfl
  have b3 := (HB1.out.2.2.2.1).cell 3 rfl
  have b4 := (HB1.out.2.2.2.1).cell 4 rfl
  have b5 := (HB1.out.2.2.2.1).cell 5 rfl
  have b6 := (HB1.out.2.2.2.1).cell 6 rfl
  have b7 := (HB1.out.2.2.2.1).cell 7 rfl
  have lb := (HB1.out.2.2.2.1).lt
  have z0 := (HB1.out.2.2.2.2.1).cell 0 rfl
  have z1 := (HB1.out.2.2.2.2.1).cell 1 rfl
  have z2 := (HB1.out.2.2.2.2.1).cell 2 rfl
  have z3 := (HB1.out.2.2.2.2.1).cell 3 rfl
  have z4 := (HB1.out.2.2.2.2.1).cell 4 rfl
  have z5 := (HB1.out.2.2.2.2.1).cell 5 rfl
  have z6 := (HB1.out.2.2.2.2.1).cell 6 rfl
  have z7 := (HB1.out.2.2.2.2.1).cell 7 rfl
  have lz := (HB1.out.2.2.2.2.1).lt
  have fzz0 := (HB1.out.2.2.2.2.1).frozen 0
  have fzz1 := (HB1.out.2.2.2.2.1).frozen 1
  have fzz2 := (HB1.out.2.2.2.2.1).frozen 2
  have fzz3 := (HB1.out.2.2.2.2.1).frozen 3
  have fzz4 := (HB1.out.2.2.2.2.1).frozen 4
  have fzz5 := (HB1.out.2.2.2.2.1).frozen 5
  have fzz6 := (HB1.out.2.2.2.2.1).frozen 6
  have fzz7 := (HB1.out.2.2.2.2.1).frozen 7
  have k0 := (HB1.out.2.2.2.2.2).cell 0 rfl
  have k1 := (HB1.out.2.2.2.2.2).cell 1 rfl
  have k2 := (HB1.out.2.2.2.2.2).cell 2 rfl
  have k3 := (HB1.out.2.2.2.2.2).cell 3 rfl
  have lk := (HB1.out.2.2.2.2.2).lt
  refine wp_region_float (al := [(10, 11, #[.int .i64 (0), .int .i64 (0)], 38), (11, 12, #[.int .i64 (0), .int .i64 (0)], 38)]) (mv := fun _ => false) [12, 13] [0, 1, 2, 3, 4, 5, 6, 7, 8, 9] (by kernel_rfl) (by kernel_rfl) (makes2 ⟨_, rfl, rfl, fun _ => rfl, fun _ _ => by simp [go_sem]⟩ ⟨_, rfl, rfl, fun _ => rfl, fun _ _ => by simp [go_sem]⟩) (cls_ext _) (by first | exact drew_in2 _ _ | exact drew_in _) (Nat.le_refl _) ?_
  simp only [withOps, List.filterMap_cons, List.filterMap_nil, List.getElem?_toArray, List.getElem?_cons_zero, List.getElem?_cons_succ, Option.map_some]
  (repeat (first | (apply walkF_pure (base := fun p : Ext => ext _ p) rfl rfl rfl (by kernel_rfl); · (intro px K hK; go_big_quiet_op; first | exact hK | (apply Exists.intro; refine ⟨fun _ => ?_, ?_⟩; (· ((first | (go_at_call 202; with_reducible exact Gives.inFloat (HU.out _)) | (go_at_call 202; with_reducible exact Gives.inFloat (HV.out _))))); exact hK))) | (apply walkF_skip rfl; simp only [Act.put, List.setIfInBounds_toArray, List.set_cons_zero, List.set_cons_succ])))
  refine walkF_nil (end2 (by decide) (fun g1 g2 W2 hg1 hg2 hg12 hW2 z1 z2 => ?_))
  simp only [Act.put, List.setIfInBounds_toArray, List.set_cons_zero, List.set_cons_succ]
  (try simp only [List.filterMap_cons, List.filterMap_nil, List.getElem?_toArray, List.getElem?_cons_zero, List.getElem?_cons_succ])
  have hUp : Up V1 W2 := hW2
  have lg1 : ga < g1 := by omega
  have lg2 : ga < g2 := by omega
  have hg21 : g2 ≠ g1 := fun e => hg12 e.symm
  refine forgetW (fun wr => Up w wr ∧ Box wr w.heap.size #[.slice a n c, .int .i64 home] 24 ∧ Box wr (w.heap.size + 1) #[.int .i64 (d.l.1), .int .i64 (d.l.2), .int .i64 (d.h.1), .int .i64 (d.h.2), .int .i64 (d.g)] 68 ∧ Box wr (w.heap.size + 1 + 1) #[.int .i64 (x0), .int .i64 (x1), .int .i64 (y0), .int .i64 (y1), .int .i64 (u0), .int .i64 (u1), .int .i64 (v0), .int .i64 (v1)] 91 ∧ Box wr (w.heap.size + 1 + 1 + 1) #[.int .i64 (0), .int .i64 (0), .int .i64 (0), .int .i64 (0), .int .i64 (0), .int .i64 (0), .int .i64 (0), .int .i64 (0)] 91 ∧ Box wr ga #[.int .i64 (a0), .int .i64 (a1), .int .i64 (a2), .int .i64 (a3)] 46 ∧ Box wr g1 #[.int .i64 (0), .int .i64 (0)] 38 ∧ Box wr g2 #[.int .i64 (0), .int .i64 (0)] 38) ⟨(HB1.out.1).trans hUp, (HB1.out.2.1).up hUp, (HB1.out.2.2.1).up hUp, (HB1.out.2.2.2.1).up hUp, (HB1.out.2.2.2.2.1).up hUp, (HB1.out.2.2.2.2.2).up hUp, z1, z2⟩ ?_
  clear HB1 w0 w1 lw dd0 dd1 dd2 dd3 dd4 ldd b0 b1 b2 b3 b4 b5 b6 b7 lb z0 z1 z2 z3 z4 z5 z6 z7 lz fzz0 fzz1 fzz2 fzz3 fzz4 fzz5 fzz6 fzz7 k0 k1 k2 k3 lk
  clear hUp
  rintro V2 ⟨hu, b0, b1, b2, b3, b4, b5, b6⟩
  have HB2 := hide (And.intro hu (And.intro b0 (And.intro b1 (And.intro b2 (And.intro b3 (And.intro b4 (And.intro b5 b6)))))))
  clear hu b0 b1 b2 b3 b4 b5 b6
  have w0 := (HB2.out.2.1).cell 0 rfl
  have w1 := (HB2.out.2.1).cell 1 rfl
  have lw := (HB2.out.2.1).lt
  have dd0 := (HB2.out.2.2.1).cell 0 rfl
  have dd1 := (HB2.out.2.2.1).cell 1 rfl
  have dd2 := (HB2.out.2.2.1).cell 2 rfl
  have dd3 := (HB2.out.2.2.1).cell 3 rfl
  have dd4 := (HB2.out.2.2.1).cell 4 rfl
  have ldd := (HB2.out.2.2.1).lt
  have b0 := (HB2.out.2.2.2.1).cell 0 rfl
  have b1 := (HB2.out.2.2.2.1).cell 1 rfl
  have b2 := (HB2.out.2.2.2.1).cell 2 rfl
  have b3 := (HB2.out.2.2.2.1).cell 3 rfl
  have b4 := (HB2.out.2.2.2.1).cell 4 rfl
  have b5 := (HB2.out.2.2.2.1).cell 5 rfl
  have b6 := (HB2.out.2.2.2.1).cell 6 rfl
  have b7 := (HB2.out.2.2.2.1).cell 7 rfl
  have lb := (HB2.out.2.2.2.1).lt
  have z0 := (HB2.out.2.2.2.2.1).cell 0 rfl
  have z1 := (HB2.out.2.2.2.2.1).cell 1 rfl
  have z2 := (HB2.out.2.2.2.2.1).cell 2 rfl
  have z3 := (HB2.out.2.2.2.2.1).cell 3 rfl
  have z4 := (HB2.out.2.2.2.2.1).cell 4 rfl
  have z5 := (HB2.out.2.2.2.2.1).cell 5 rfl
  have z6 := (HB2.out.2.2.2.2.1).cell 6 rfl
  have z7 := (HB2.out.2.2.2.2.1).cell 7 rfl
  have lz := (HB2.out.2.2.2.2.1).lt
  have fzz0 := (HB2.out.2.2.2.2.1).frozen 0
  have fzz1 := (HB2.out.2.2.2.2.1).frozen 1
  have fzz2 := (HB2.out.2.2.2.2.1).frozen 2
  have fzz3 := (HB2.out.2.2.2.2.1).frozen 3
  have fzz4 := (HB2.out.2.2.2.2.1).frozen 4
  have fzz5 := (HB2.out.2.2.2.2.1).frozen 5
  have fzz6 := (HB2.out.2.2.2.2.1).frozen 6
  have fzz7 := (HB2.out.2.2.2.2.1).frozen 7
  have k0 := (HB2.out.2.2.2.2.2.1).cell 0 rfl
  have k1 := (HB2.out.2.2.2.2.2.1).cell 1 rfl
  have k2 := (HB2.out.2.2.2.2.2.1).cell 2 rfl
  have k3 := (HB2.out.2.2.2.2.2.1).cell 3 rfl
  have lk := (HB2.out.2.2.2.2.2.1).lt
  have r0 := (HB2.out.2.2.2.2.2.2.1).cell 0 rfl
  have r1 := (HB2.out.2.2.2.2.2.2.1).cell 1 rfl
  have lr := (HB2.out.2.2.2.2.2.2.1).lt
  have fzr0 := (HB2.out.2.2.2.2.2.2.1).frozen 0
  have fzr1 := (HB2.out.2.2.2.2.2.2.1).frozen 1
  have s0 := (HB2.out.2.2.2.2.2.2.2).cell 0 rfl
  have s1 := (HB2.out.2.2.2.2.2.2.2).cell 1 rfl
  have ls := (HB2.out.2.2.2.2.2.2.2).lt
  have fzs0 := (HB2.out.2.2.2.2.2.2.2).frozen 0
  have fzs1 := (HB2.out.2.2.2.2.2.2.2).frozen 1
  clear hW2 z1 z2 hg1 hg2
  go_wp2_with fail
  refine forgetW (fun wr => Up w wr ∧ Box wr w.heap.size #[.slice a n c, .int .i64 home] 24 ∧ Box wr (w.heap.size + 1) #[.int .i64 (d.l.1), .int .i64 (d.l.2), .int .i64 (d.h.1), .int .i64 (d.h.2), .int .i64 (d.g)] 68 ∧ Box wr (w.heap.size + 1 + 1) #[.int .i64 (x0), .int .i64 (x1), .int .i64 (y0), .int .i64 (y1), .int .i64 (u0), .int .i64 (u1), .int .i64 (v0), .int .i64 (v1)] 91 ∧ Box wr (w.heap.size + 1 + 1 + 1) #[.int .i64 (0), .int .i64 (0), .int .i64 (0), .int .i64 (0), .int .i64 (0), .int .i64 (0), .int .i64 (0), .int .i64 (0)] 91 ∧ Box wr g1 #[.int .i64 (p0), .int .i64 (p1)] 38 ∧ Box wr g2 #[.int .i64 (q0), .int .i64 (q1)] 38) ⟨(by repeat (first | with_reducible exact HB2.out.1 | with_reducible exact Up.refl _ | with_reducible apply Up.ext | with_reducible apply Up.alloc | with_reducible apply Up.drew | (with_reducible refine Up.setCell ?_ (by simp only; omega) _))), (by repeat (first | with_reducible exact HB2.out.2.1 | with_reducible apply Box.ext | with_reducible apply Box.alloc | with_reducible apply Box.drew | (with_reducible refine Box.other ?_ (by omega) _ _))), (by repeat (first | with_reducible exact HB2.out.2.2.1 | with_reducible apply Box.ext | with_reducible apply Box.alloc | with_reducible apply Box.drew | (with_reducible refine Box.other ?_ (by omega) _ _))), (by repeat (first | with_reducible exact HB2.out.2.2.2.1 | with_reducible apply Box.ext | with_reducible apply Box.alloc | with_reducible apply Box.drew | (with_reducible refine Box.other ?_ (by omega) _ _))), (by repeat (first | with_reducible exact HB2.out.2.2.2.2.1 | with_reducible apply Box.ext | with_reducible apply Box.alloc | with_reducible apply Box.drew | (with_reducible refine Box.other ?_ (by omega) _ _))), (by (repeat (first | with_reducible apply Box.ext | with_reducible apply Box.alloc | with_reducible apply Box.drew)); exact ((((HB2.out.2.2.2.2.2.2.1).set 0 (.int .i64 p0)).set 1 (.int .i64 p1)).other hg12 _ _).other hg12 _ _), (by (repeat (first | with_reducible apply Box.ext | with_reducible apply Box.alloc | with_reducible apply Box.drew)); exact ((((HB2.out.2.2.2.2.2.2.2).other hg21 _ _).other hg21 _ _).set 0 (.int .i64 q0)).set 1 (.int .i64 q1))⟩ ?_
  clear HB2 w0 w1 lw dd0 dd1 dd2 dd3 dd4 ldd b0 b1 b2 b3 b4 b5 b6 b7 lb z0 z1 z2 z3 z4 z5 z6 z7 lz fzz0 fzz1 fzz2 fzz3 fzz4 fzz5 fzz6 fzz7 k0 k1 k2 k3 lk r0 r1 lr fzr0 fzr1 s0 s1 ls fzs0 fzs1
  rintro V3 ⟨hu, b0, b1, b2, b3, b4, b5⟩
  have HB3 := hide (And.intro hu (And.intro b0 (And.intro b1 (And.intro b2 (And.intro b3 (And.intro b4 b5))))))
  clear hu b0 b1 b2 b3 b4 b5
  have w0 := (HB3.out.2.1).cell 0 rfl
  have w1 := (HB3.out.2.1).cell 1 rfl
  have lw := (HB3.out.2.1).lt
  have dd0 := (HB3.out.2.2.1).cell 0 rfl
  have dd1 := (HB3.out.2.2.1).cell 1 rfl
  have dd2 := (HB3.out.2.2.1).cell 2 rfl
  have dd3 := (HB3.out.2.2.1).cell 3 rfl
  have dd4 := (HB3.out.2.2.1).cell 4 rfl
  have ldd := (HB3.out.2.2.1).lt
  have b0 := (HB3.out.2.2.2.1).cell 0 rfl
  have b1 := (HB3.out.2.2.2.1).cell 1 rfl
  have b2 := (HB3.out.2.2.2.1).cell 2 rfl
  have b3 := (HB3.out.2.2.2.1).cell 3 rfl
  have b4 := (HB3.out.2.2.2.1).cell 4 rfl
  have b5 := (HB3.out.2.2.2.1).cell 5 rfl
  have b6 := (HB3.out.2.2.2.1).cell 6 rfl
  have b7 := (HB3.out.2.2.2.1).cell 7 rfl
  have lb := (HB3.out.2.2.2.1).lt
  have z0 := (HB3.out.2.2.2.2.1).cell 0 rfl
  have z1 := (HB3.out.2.2.2.2.1).cell 1 rfl
  have z2 := (HB3.out.2.2.2.2.1).cell 2 rfl
  have z3 := (HB3.out.2.2.2.2.1).cell 3 rfl
  have z4 := (HB3.out.2.2.2.2.1).cell 4 rfl
  have z5 := (HB3.out.2.2.2.2.1).cell 5 rfl
  have z6 := (HB3.out.2.2.2.2.1).cell 6 rfl
  have z7 := (HB3.out.2.2.2.2.1).cell 7 rfl
  have lz := (HB3.out.2.2.2.2.1).lt
  have fzz0 := (HB3.out.2.2.2.2.1).frozen 0
  have fzz1 := (HB3.out.2.2.2.2.1).frozen 1
  have fzz2 := (HB3.out.2.2.2.2.1).frozen 2
  have fzz3 := (HB3.out.2.2.2.2.1).frozen 3
  have fzz4 := (HB3.out.2.2.2.2.1).frozen 4
  have fzz5 := (HB3.out.2.2.2.2.1).frozen 5
  have fzz6 := (HB3.out.2.2.2.2.1).frozen 6
  have fzz7 := (HB3.out.2.2.2.2.1).frozen 7
  have r0 := (HB3.out.2.2.2.2.2.1).cell 0 rfl
  have r1 := (HB3.out.2.2.2.2.2.1).cell 1 rfl
  have lr := (HB3.out.2.2.2.2.2.1).lt
  have fzr0 := (HB3.out.2.2.2.2.2.1).frozen 0
  have fzr1 := (HB3.out.2.2.2.2.2.1).frozen 1
  have s0 := (HB3.out.2.2.2.2.2.2).cell 0 rfl
  have s1 := (HB3.out.2.2.2.2.2.2).cell 1 rfl
  have ls := (HB3.out.2.2.2.2.2.2).lt
  have fzs0 := (HB3.out.2.2.2.2.2.2).frozen 0
  have fzs1 := (HB3.out.2.2.2.2.2.2).frozen 1
  ((first | with_reducible refine wp_region_ext_tail2 1 (by kernel_rfl) (by kernel_rfl) ?_ | refine wp_region_ext_tail 1 (by kernel_rfl) (by kernel_rfl) ?_); simp only [List.length_cons, List.length_nil, Nat.reduceAdd, Nat.reduceSub, List.take_succ_cons, List.take_zero, List.drop_succ_cons, List.drop_zero]; (repeat (go_big_quiet_step ((first | (go_at_call 202; with_reducible exact Gives.inRegion (HX.out _)) | (go_at_call 202; with_reducible exact Gives.inRegion (HY.out _)))))); refine wpQuiet_nil ?_; intro _ hw'; obtain ⟨_, hw''⟩ := hw'; subst hw'')
  go_wp2
  refine forgetW (fun WF => Up w WF ∧ Box WF (w.heap.size + 1 + 1 + 1) #[.int .i64 (m0), .int .i64 (m1), .int .i64 (n0), .int .i64 (n1), .int .i64 (p0), .int .i64 (p1), .int .i64 (q0), .int .i64 (q1)] 91) ⟨(by repeat (first | with_reducible exact HB3.out.1 | with_reducible exact Up.refl _ | with_reducible apply Up.ext | with_reducible apply Up.alloc | with_reducible apply Up.drew | (with_reducible refine Up.setCell ?_ (by simp only; omega) _))), (by (repeat (first | with_reducible apply Box.ext | with_reducible apply Box.alloc | with_reducible apply Box.drew)); exact ((((((((HB3.out.2.2.2.2.1).set 0 (.int .i64 m0)).set 1 (.int .i64 m1)).set 2 (.int .i64 n0)).set 3 (.int .i64 n1)).set 4 (.int .i64 p0)).set 5 (.int .i64 p1)).set 6 (.int .i64 q0)).set 7 (.int .i64 q1))⟩ ?_
  rintro WF ⟨huF, hbF⟩
  have e0 := hbF.cell 0 rfl
  have e1 := hbF.cell 1 rfl
  have e2 := hbF.cell 2 rfl
  have e3 := hbF.cell 3 rfl
  have e4 := hbF.cell 4 rfl
  have e5 := hbF.cell 5 rfl
  have e6 := hbF.cell 6 rfl
  have e7 := hbF.cell 7 rfl
  (refine bodyPost_give huF rfl ⟨_, (by simp [results, Tryz.results179, go_sem, e0, e1, e2, e3, e4, e5, e6, e7]; rfl), ?_⟩)
  rfl
end Go.Proofs.YtnaiaodnnmhdkaaGreat

