/- Several texts in one. -/
import Derived.Test.YtnaiaodnnmhdkaaGreatOrbS
import Derived.Test.YtnaiaodnnmhdkaaGreatSkyC
import Derived.Test.YtnaiaodnnmhdkaaGreatSkyR
import Derived.Test.YtnaiaodnnmhdkaaGreatSkyE
import Derived.Test.YtnaiaodnnmhdkaaGreatRootR
import Derived.Test.YtnaiaodnnmhdkaaGreatModk
import Derived.Test.YtnaiaodnnmhdkaaGreatWatchJ
/- Reference bolideref04: sets stepped, propagated. Conditions: what lies in memory, valid boxes. -/
namespace Go.Proofs.YtnaiaodnnmhdkaaGreat
set_option linter.unusedVariables false
set_option linter.unusedSimpArgs false
open Go.RowKit Go.Shelf

theorem AlS.up {w : World} {a : Option Addr} {n c : Nat} {home : Int} {bs : List Bod} {d : DriftD} {t : Int} {l : List BoxD} {k : Nat} {v : Value} {wr W : World} (h : AlS w a n c home bs d t l k v wr) (hu : Up wr W) : AlS w a n c home bs d t l k v W :=
  ⟨h.1.trans hu, h.2.1.up hu, h.2.2.1.up hu, h.2.2.2.1.up hu, h.2.2.2.2⟩
set_option maxRecDepth 100000 in
set_option maxHeartbeats 20000000 in
theorem qsteps_any {K : Nat → Prop} {w : World} {a : Option Addr} {n c : Nat} {bs : List Bod} {home : Int} (hl : Bods K w (.slice a n c) bs) (hh : I64 home) (d : DriftD) (hw : worldDE bs home d = 0) {t : Int} (ht : 0 ≤ t ∧ t ≤ 1073741824) {KB : Nat → Prop} {ba : Option Addr} {bn bc : Nat} {l : List BoxD} (hL : Boxes KB w (.slice ba bn bc) l) (hok : ∀ b ∈ l, BOk b) (hn : l.length ≤ 512) :
    Calls Tryz.prog 147 #[.agg #[.slice a n c, .int .i64 home], .agg #[.int .i64 (d.l.1), .int .i64 (d.l.2), .int .i64 (d.h.1), .int .i64 (d.h.2), .int .i64 (d.g)], .int .i64 t, .slice ba bn bc] w (GivesList w ((stepsV bs d t l).getD []) (.bool (stepsV bs d t l).isSome)) := by
  have hbn := (Boxes.at hL).1
  have HB := hide hL
  have HST := hide (fun (b : BoxD) (hb : BOk b) W (hu : Up w W) => qstep_any (hl.keeps (hu.keeps K)) hh d hw ht hb)
  have HN := hide (And.intro hbn (And.intro hok hn))
  have hb5 : bn ≤ 512 := by omega
  clear hL hl hw ht hh hbn hok hn
  go_enter Tryz.func147, Tryz.ntmps147
  go_wp2
  go_loopw [10, 11] (fun s10 s11 wr => ∃ k : Nat, k ≤ bn ∧ s11 = .int .i64 k ∧ Hid (AlS w a n c home bs d t l k s10 wr)) (fun _ s11 _ => bn - (intOf s11).toNat)
  case atStart => exact ⟨0, by omega, rfl, hide ⟨(by repeat (first | with_reducible exact Up.refl _ | with_reducible apply Up.plus | apply Up.ext | apply Up.alloc | apply Up.drew | (refine Up.setCell ?_ (by simp; try omega) _))), (by repeat (first | exact Box.mk rfl | (refine Box.mk ?_; simp; done) | apply Box.ext | apply Box.drew | apply Box.alloc | apply Box.two1 | (refine Box.other ?_ (by omega) _ _))), (by repeat (first | exact Box.mk rfl | (refine Box.mk ?_; simp; done) | apply Box.ext | apply Box.drew | apply Box.alloc | apply Box.two1 | (refine Box.other ?_ (by omega) _ _))), by simpa using Own.nil TBox 91 (w.heap.size + 2) _, by simp [stepsV]⟩⟩
  case round =>
    obtain ⟨k, hk, rfl, HI⟩ := hrel
    have w0 := HI.out.2.1.cell 0 rfl
    have w1 := HI.out.2.1.cell 1 rfl
    have lw := HI.out.2.1.lt
    have d0 := HI.out.2.2.1.cell 0 rfl
    have d1 := HI.out.2.2.1.cell 1 rfl
    have d2 := HI.out.2.2.1.cell 2 rfl
    have d3 := HI.out.2.2.1.cell 3 rfl
    have d4 := HI.out.2.2.1.cell 4 rfl
    have ld := HI.out.2.2.1.lt
    by_cases hlt : k < bn
    · obtain ⟨b, o, p, rfl, hKb, hbw, hp, c0, c1, c2, c3, c4, c5, c6, c7⟩ := (Boxes.at (HB.out.keeps (HI.out.1.keeps KB))).2.2 k hlt
      have hkb : decide ((k : Int) < bn) = true := by simp; omega
      have hkn : decide (k < bn) = true := by simp; omega
      have hbk := HN.out.2.1 p (List.mem_of_getElem? hp)
      have HP := hide (And.intro hp hbk)
      have HS := hide (HST.out p hbk)
      clear hp hKb hbk
      obtain ⟨SS, hSS⟩ : ∃ S, stepV bs d t p = S := ⟨_, rfl⟩
      rw [hSS] at HS
      have HSS := hide hSS
      have HCK := hide (fun W => qbox_any SS W)
      clear hSS
      obtain ⟨x0, x1, y0, y1, u0, u1, v0, v1⟩ := SS
      obtain ⟨px0, px1, py0, py1, pu0, pu1, pv0, pv1⟩ := p
      obtain ⟨E, hE⟩ : ∃ E, boxE ⟨x0, x1, y0, y1, u0, u1, v0, v1⟩ = E := ⟨_, rfl⟩
      rw [hE] at HCK
      have HE := hide hE
      clear hE
      unfold boxA at HS HCK
      dsimp only at HS HCK c0 c1 c2 c3 c4 c5 c6 c7
      go_wp2_with fail
      refine wp_region_float (al := [(8, 12, #[.int .i64 (0), .int .i64 (0), .int .i64 (0), .int .i64 (0), .int .i64 (0), .int .i64 (0), .int .i64 (0), .int .i64 (0)], 91)]) (mv := fun _ => false) [9] [0, 1, 2, 3, 4, 5, 6, 7] (by kernel_rfl) (by kernel_rfl) (makes1 ⟨_, rfl, rfl, fun _ => rfl, fun _ _ => by simp [go_sem]⟩) (cls_ext _) (by first | exact drew_in2 _ _ | exact drew_in _) (Nat.le_refl _) ?_
      simp only [withOps, List.filterMap_cons, List.filterMap_nil, List.getElem?_toArray, List.getElem?_cons_zero, List.getElem?_cons_succ, Option.map_some]
      (repeat (first | (apply walkF_pure (base := fun p : Ext => ext _ p) rfl rfl rfl (by kernel_rfl); · (intro px K hK; go_big_quiet_op; first | exact hK | (apply Exists.intro; refine ⟨fun _ => ?_, ?_⟩; (· ((go_at_call 179; with_reducible exact Gives.inFloat (HS.out _ (Up.ext HI.out.1 _))))); exact hK))) | (apply walkF_skip rfl; simp only [Act.put, List.setIfInBounds_toArray, List.set_cons_zero, List.set_cons_succ])))
      refine walkF_nil (end1 (fun g W2 hg hW2 z => ?_))
      simp only [Act.put, List.setIfInBounds_toArray, List.set_cons_zero, List.set_cons_succ]
      (try simp only [List.filterMap_cons, List.filterMap_nil, List.getElem?_toArray, List.getElem?_cons_zero, List.getElem?_cons_succ])
      have hUp : Up wr W2 := hW2
      refine forgetW (fun V => AlS w a n c home bs d t l k u10 V ∧ Box V g #[.int .i64 (0), .int .i64 (0), .int .i64 (0), .int .i64 (0), .int .i64 (0), .int .i64 (0), .int .i64 (0), .int .i64 (0)] 91) ⟨HI.out.up hUp, z⟩ ?_
      have hne : u10.ownBlock ≠ some g := fun e => by have := (HI.out.2.2.2.1.lt _ e).2; omega
      have lwg : w.heap.size + 1 < g := by omega
      clear hUp hW2 z hg HI w0 w1 lw d0 d1 d2 d3 d4 ld c0 c1 c2 c3 c4 c5 c6 c7 hbw
      rintro V ⟨hA, hb⟩
      have HI := hide hA
      have z0 := hb.cell 0 rfl
      have lz := hb.lt
      have fz0 := hb.frozen 0
      have fz1 := hb.frozen 1
      have fz2 := hb.frozen 2
      have fz3 := hb.frozen 3
      have fz4 := hb.frozen 4
      have fz5 := hb.frozen 5
      have fz6 := hb.frozen 6
      have fz7 := hb.frozen 7
      have z1 := hb.cell 1 rfl
      have z2 := hb.cell 2 rfl
      have z3 := hb.cell 3 rfl
      have z4 := hb.cell 4 rfl
      have z5 := hb.cell 5 rfl
      have z6 := hb.cell 6 rfl
      have z7 := hb.cell 7 rfl
      have HZ := hide hb
      clear hA hb
      go_wp2_with fail
      go_at_call 178
      refine forgetK (fun V => AlS w a n c home bs d t l k u10 V ∧ Box V g #[.int .i64 (x0), .int .i64 (x1), .int .i64 (y0), .int .i64 (y1), .int .i64 (u0), .int .i64 (u1), .int .i64 (v0), .int .i64 (v1)] 91) ⟨⟨(by repeat (first | with_reducible exact HI.out.1 | with_reducible exact Up.refl _ | with_reducible apply Up.ext | with_reducible apply Up.alloc | with_reducible apply Up.drew | (with_reducible refine Up.setCell ?_ (by simp only; omega) _))), (by repeat (first | with_reducible exact HI.out.2.1 | with_reducible apply Box.ext | with_reducible apply Box.alloc | with_reducible apply Box.drew | (with_reducible refine Box.other ?_ (by omega) _ _))), (by repeat (first | with_reducible exact HI.out.2.2.1 | with_reducible apply Box.ext | with_reducible apply Box.alloc | with_reducible apply Box.drew | (with_reducible refine Box.other ?_ (by omega) _ _))), (by repeat (first | with_reducible exact HI.out.2.2.2.1 | (with_reducible refine Own.set ?_ hne _ _))), HI.out.2.2.2.2⟩, (by (repeat (first | with_reducible apply Box.ext | with_reducible apply Box.alloc | with_reducible apply Box.drew)); exact (((((((HZ.out.set 0 (.int .i64 x0)).set 1 (.int .i64 x1)).set 2 (.int .i64 y0)).set 3 (.int .i64 y1)).set 4 (.int .i64 u0)).set 5 (.int .i64 u1)).set 6 (.int .i64 v0)).set 7 (.int .i64 v1))⟩ ?_
      clear HI HZ z0 z1 z2 z3 z4 z5 z6 z7 fz0 fz1 fz2 fz3 fz4 fz5 fz6 fz7 lz
      rintro V3 ⟨hA, hb⟩
      have HI := hide hA
      have z0 := hb.cell 0 rfl
      have z1 := hb.cell 1 rfl
      have z2 := hb.cell 2 rfl
      have z3 := hb.cell 3 rfl
      have z4 := hb.cell 4 rfl
      have z5 := hb.cell 5 rfl
      have z6 := hb.cell 6 rfl
      have z7 := hb.cell 7 rfl
      have lz := hb.lt
      clear hA hb
      refine (HCK.out _).mono ?_
      intro q1
      by_cases hF : E = 0
      · have hFb : (E != 0) = false := by simp [hF]
        have hst : boxE (stepV bs d t ⟨px0, px1, py0, py1, pu0, pu1, pv0, pv1⟩) = 0 := by rw [HSS.out, HE.out]; exact hF
        have HG := hide (stepsV_take HP.out.1 hst HI.out.2.2.2.2)
        have HM := hide (show (l.take (k + 1)).map (stepV bs d t) = (l.take k).map (stepV bs d t) ++ [⟨x0, x1, y0, y1, u0, u1, v0, v1⟩] by rw [List.take_add_one, HP.out.1, ← HSS.out]; simp)
        have hlen : ((l.take k).map (stepV bs d t)).length = k := by have := HN.out.1; simp; omega
        have HLE := hide hlen
        clear hlen hst hF
        have hsz := HI.out.1.below.size
        go_wp2_with (at_builtin; with_reducible refine stopA rfl ?_)
        refine hide ?_
        refine wpList_push elem_box rfl (.tmp 30) (.tmp 32) rfl (w0 := w) ((by repeat (first | with_reducible exact HI.out.1 | with_reducible exact Up.refl _ | with_reducible apply Up.ext | with_reducible apply Up.alloc | with_reducible apply Up.drew | (with_reducible refine Up.setCell ?_ (by simp only; omega) _)))) (base := w.heap.size + 2) (by omega) (by simp; omega) rfl (HI.out.2.2.2.1.up ((Up.refl V3).ext _ |>.alloc _)) (by rw [HLE.out]; omega) (by decide) ⟨x0, x1, y0, y1, u0, u1, v0, v1⟩ rfl (Box.mk (by simp)) ?_
        intro g2 cap W' hu ho hbx
        rw [HLE.out]
        have HJ := hide (show AlS w a n c home bs d t l (k + 1) (.slice (some ⟨g2, 0, none⟩) (k + 1) cap) W' from ⟨hu, hbx _ _ _ (fun e => by have := (HI.out.2.2.2.1.lt _ e).1; omega) (by repeat (first | with_reducible exact HI.out.2.1 | with_reducible apply Box.ext | with_reducible apply Box.alloc | with_reducible apply Box.drew | (with_reducible refine Box.other ?_ (by omega) _ _))), hbx _ _ _ (fun e => by have := (HI.out.2.2.2.1.lt _ e).1; omega) (by repeat (first | with_reducible exact HI.out.2.2.1 | with_reducible apply Box.ext | with_reducible apply Box.alloc | with_reducible apply Box.drew | (with_reducible refine Box.other ?_ (by omega) _ _))), by rw [HM.out]; rw [HLE.out] at ho; exact ho, HG.out⟩)
        clear hu ho hbx
        go_wp2
        go_roundw
        case rel => exact ⟨k + 1, by omega, by go_num, HJ⟩
        case measure => simp [intOf]; omega
      · have hFb : (E != 0) = true := by simp [hF]
        have HF := hide (stepsV_lost HP.out.1 (show ¬ boxE (stepV bs d t ⟨px0, px1, py0, py1, pu0, pu1, pv0, pv1⟩) = 0 by rw [HSS.out, HE.out]; exact hF))
        clear hF
        go_wp2
        refine forgetW (fun WF => Up w WF) (by repeat (first | with_reducible exact HI.out.1 | with_reducible exact Up.refl _ | with_reducible apply Up.ext | with_reducible apply Up.alloc | with_reducible apply Up.drew | (with_reducible refine Up.setCell ?_ (by simp only; omega) _))) ?_
        rintro WF ⟨p, hp⟩
        exact bodyPost_ret (v := .tuple #[.slice none 0 0, .bool false]) (by simp [results, Tryz.results147, go_sem]) rfl ⟨none, 0, 0, p, by rw [HF.out]; rfl, by rw [HF.out]; exact Lies.nil _ _ _ _ _ _, hp⟩
    · have hkb : decide ((k : Int) < bn) = false := by simp; omega
      have hkn : decide (k < bn) = false := by simp; omega
      have HE := hide (show ∃ (a' : Option Addr) (c' : Nat) (p : Ext), u10 = .slice a' bn c' ∧ Boxes (fun b => w.heap.size ≤ b) wr u10 ((stepsV bs d t l).getD []) ∧ (stepsV bs d t l).isSome = true ∧ wr = ext w p by
        have hkl : k = l.length := by have := HN.out.1; omega
        have h4 := HI.out.2.2.2.1
        have h5 := HI.out.2.2.2.2
        rw [hkl, List.take_length] at h4 h5
        obtain ⟨a', c', e⟩ := h4.form
        obtain ⟨p, hp⟩ := HI.out.1
        refine ⟨a', c', p, ?_, ?_, by rw [h5]; rfl, hp⟩
        · rw [e, List.length_map, ← HN.out.1]
        · rw [h5]
          exact (boxes_of (h4.lies (by have := HN.out.2.2; simp; omega))).mono (fun b _ hb => by omega))
      obtain ⟨a', c', p, e1, hbx, his, hp⟩ := HE.out
      subst e1
      have HE2 := hide (And.intro hbx (And.intro his hp))
      clear HE hbx his hp HI w0 w1 lw d0 d1 d2 d3 d4 ld
      go_wp2
      exact bodyPost_ret (v := .tuple #[.slice a' bn c', .bool true]) (by simp [results, Tryz.results147, go_sem]) rfl ⟨a', bn, c', p, by rw [HE2.out.2.1], HE2.out.1, HE2.out.2.2⟩
end Go.Proofs.YtnaiaodnnmhdkaaGreat

/- Reference bolideref04: Propagate. Conditions: what lies in memory. -/
namespace Go.Proofs.YtnaiaodnnmhdkaaGreat
set_option linter.unusedVariables false
set_option linter.unusedSimpArgs false
open Go.RowKit Go.Shelf

set_option maxRecDepth 100000 in
set_option maxHeartbeats 20000000 in
theorem qpropagate_any {K : Nat → Prop} {w : World} {a : Option Addr} {n c : Nat} {bs : List Bod} {home : Int} (hl : Bods K w (.slice a n c) bs) (hh : I64 home) (d : DriftD) {KB : Nat → Prop} {ba : Option Addr} {bn bc : Nat} {l : List BoxD} (hL : Boxes KB w (.slice ba bn bc) l) (t m : Int) (hm : -9223372036854775808 ≤ m ∧ m ≤ 9223372036854775807) :
    Calls Tryz.prog 90 #[.agg #[.slice a n c, .int .i64 home], .agg #[.int .i64 (d.l.1), .int .i64 (d.l.2), .int .i64 (d.h.1), .int .i64 (d.h.2), .int .i64 (d.g)], .int .i64 t, .slice ba bn bc, .int .i64 m] w (GivesList w (propagateV bs home d t m l).1 (.int .i64 (propagateV bs home d t m l).2)) := by
  have HW := hide (fun W (hu : Up w W) => qworld_any (hl.keeps (hu.keeps K)) hh d)
  have HY := hide (fun W => qspan_any t m hm W)
  have HS := hide (fun W (hu : Up w W) => qset_any (hL.keeps (hu.keeps KB)))
  unfold propagateV
  by_cases he : propE bs home d t m l = 0
  rotate_left
  · rw [if_neg he]
    dsimp only
    unfold propE wayE at he ⊢
    by_cases hw : worldDE bs home d = 0
    · rw [if_pos hw] at he ⊢
      rw [hw] at HW
      by_cases hs : spanE t m = 0
      · rw [if_pos hs] at he ⊢
        rw [decide_eq_true hs] at HY
        have hE : (setE l != 0) = true := by simpa using he
        generalize setE l = E at *
        clear hl hh hL he hw hs
        go_enter Tryz.func90, Tryz.ntmps90
        go_wp2_with (first | (go_at_call 144; (with_reducible refine (HW.out _ (by repeat (first | with_reducible exact Up.refl _ | with_reducible apply Up.plus | apply Up.ext | apply Up.alloc | apply Up.drew | (refine Up.setCell ?_ (by simp; try omega) _)))).mono ?_); intro _) | (go_at_call 145; (with_reducible refine (HY.out _).mono ?_); intro _) | (go_at_call 146; (with_reducible refine (HS.out _ (by repeat (first | with_reducible exact Up.refl _ | with_reducible apply Up.plus | apply Up.ext | apply Up.alloc | apply Up.drew | (refine Up.setCell ?_ (by simp; try omega) _)))).mono ?_); intro _))
        refine forgetW (fun WF => Up w WF) (by repeat (first | with_reducible exact Up.refl _ | with_reducible apply Up.plus | apply Up.ext | apply Up.alloc | apply Up.drew | (refine Up.setCell ?_ (by simp; try omega) _))) ?_
        rintro WF hu
        exact bodyPost_ret (v := .tuple #[.slice none 0 0, .int .i64 E]) (by simp [results, Tryz.results90, go_sem]) rfl (GivesList.fin hu (Lies.nil _ _ _ _ _ _))
      · rw [if_neg hs] at he ⊢
        rw [decide_eq_false hs] at HY
        clear hl hh hL he hw hs
        go_enter Tryz.func90, Tryz.ntmps90
        go_wp2_with (first | (go_at_call 144; (with_reducible refine (HW.out _ (by repeat (first | with_reducible exact Up.refl _ | with_reducible apply Up.plus | apply Up.ext | apply Up.alloc | apply Up.drew | (refine Up.setCell ?_ (by simp; try omega) _)))).mono ?_); intro _) | (go_at_call 145; (with_reducible refine (HY.out _).mono ?_); intro _) | (go_at_call 146; (with_reducible refine (HS.out _ (by repeat (first | with_reducible exact Up.refl _ | with_reducible apply Up.plus | apply Up.ext | apply Up.alloc | apply Up.drew | (refine Up.setCell ?_ (by simp; try omega) _)))).mono ?_); intro _))
        refine forgetW (fun WF => Up w WF) (by repeat (first | with_reducible exact Up.refl _ | with_reducible apply Up.plus | apply Up.ext | apply Up.alloc | apply Up.drew | (refine Up.setCell ?_ (by simp; try omega) _))) ?_
        rintro WF hu
        exact bodyPost_ret (v := .tuple #[.slice none 0 0, .int .i64 2]) (by simp [results, Tryz.results90, go_sem]) rfl (GivesList.fin hu (Lies.nil _ _ _ _ _ _))
    · rw [if_neg hw] at he ⊢
      have hE : (worldDE bs home d == 0) = false := by simpa using hw
      have hE2 : (worldDE bs home d != 0) = true := by simpa using hw
      generalize worldDE bs home d = E at *
      clear hl hh hL he hw
      go_enter Tryz.func90, Tryz.ntmps90
      go_wp2_with (first | (go_at_call 144; (with_reducible refine (HW.out _ (by repeat (first | with_reducible exact Up.refl _ | with_reducible apply Up.plus | apply Up.ext | apply Up.alloc | apply Up.drew | (refine Up.setCell ?_ (by simp; try omega) _)))).mono ?_); intro _) | (go_at_call 145; (with_reducible refine (HY.out _).mono ?_); intro _) | (go_at_call 146; (with_reducible refine (HS.out _ (by repeat (first | with_reducible exact Up.refl _ | with_reducible apply Up.plus | apply Up.ext | apply Up.alloc | apply Up.drew | (refine Up.setCell ?_ (by simp; try omega) _)))).mono ?_); intro _))
      refine forgetW (fun WF => Up w WF) (by repeat (first | with_reducible exact Up.refl _ | with_reducible apply Up.plus | apply Up.ext | apply Up.alloc | apply Up.drew | (refine Up.setCell ?_ (by simp; try omega) _))) ?_
      rintro WF hu
      exact bodyPost_ret (v := .tuple #[.slice none 0 0, .int .i64 E]) (by simp [results, Tryz.results90, go_sem]) rfl (GivesList.fin hu (Lies.nil _ _ _ _ _ _))
  rw [if_pos he]
  obtain ⟨hw, hsp, hset⟩ := propE_zero he
  obtain ⟨hn, hok⟩ := setE_zero hset
  have hsz : spanE t m = 0 := by unfold spanE; rw [if_pos hsp]
  rw [hw] at HW
  rw [decide_eq_true hsz] at HY
  rw [hset] at HS
  have HALL := hide (fun (cur : List BoxD) (hok : ∀ b ∈ cur, BOk b) (hn : cur.length ≤ 512) (tt : Int) (ht : 0 ≤ tt ∧ tt ≤ 1073741824) W (hu : Up w W) (a' : Option Addr) (n' c' : Nat) (hb : Boxes (fun b => w.heap.size ≤ b) W (.slice a' n' c') cur) =>
    qsteps_any (hl.keeps (hu.keeps K)) hh d hw ht hb hok hn)
  obtain ⟨mm, rfl⟩ := Int.eq_ofNat_of_zero_le hsp.1
  have HN := hide (And.intro hn hok)
  have HL := hide hL
  clear hl hh hL he hw hset hsz hok hm
  rw [Int.toNat_natCast]
  obtain ⟨⟨RL, RE⟩, hR⟩ : ∃ R, optL (propV bs d mm t l) = R := ⟨_, rfl⟩
  rw [hR]
  have HR := hide hR
  clear hR
  dsimp only
  go_enter Tryz.func90, Tryz.ntmps90
  go_wp2_with fail
  go_at_call 144
  refine forgetK (fun wr => Up w wr ∧ Box wr w.heap.size #[.slice a n c, .int .i64 home] 24 ∧ Box wr (w.heap.size + 1) #[.int .i64 (d.l.1), .int .i64 (d.l.2), .int .i64 (d.h.1), .int .i64 (d.h.2), .int .i64 (d.g)] 68) ⟨(by repeat (first | with_reducible exact Up.refl _ | with_reducible apply Up.plus | apply Up.ext | apply Up.alloc | apply Up.drew | (refine Up.setCell ?_ (by simp; try omega) _))), (by repeat (first | exact Box.mk rfl | (refine Box.mk ?_; simp; done) | apply Box.ext | apply Box.drew | apply Box.alloc | apply Box.two1 | (refine Box.other ?_ (by omega) _ _))), (by repeat (first | exact Box.mk rfl | (refine Box.mk ?_; simp; done) | apply Box.ext | apply Box.drew | apply Box.alloc | apply Box.two1 | (refine Box.other ?_ (by omega) _ _)))⟩ ?_
  rintro V0 ⟨hu, b0, b1⟩
  have HB0 := hide (And.intro hu (And.intro b0 b1))
  clear hu b0 b1
  have w0 := (HB0.out.2.1).cell 0 rfl
  have w1 := (HB0.out.2.1).cell 1 rfl
  have lw := (HB0.out.2.1).lt
  have dd0 := (HB0.out.2.2).cell 0 rfl
  have dd1 := (HB0.out.2.2).cell 1 rfl
  have dd2 := (HB0.out.2.2).cell 2 rfl
  have dd3 := (HB0.out.2.2).cell 3 rfl
  have dd4 := (HB0.out.2.2).cell 4 rfl
  have ldd := (HB0.out.2.2).lt
  refine (HW.out _ (by repeat (first | with_reducible exact HB0.out.1 | with_reducible exact Up.refl _ | with_reducible apply Up.ext | with_reducible apply Up.alloc | with_reducible apply Up.drew | (with_reducible refine Up.setCell ?_ (by simp only; omega) _)))).mono ?_
  intro qa
  go_wp2_with (first | (go_at_call 145; (with_reducible refine (HY.out _).mono ?_); intro _) | (go_at_call 146; (with_reducible refine (HS.out _ (by repeat (first | with_reducible exact HB0.out.1 | with_reducible exact Up.refl _ | with_reducible apply Up.ext | with_reducible apply Up.alloc | with_reducible apply Up.drew | (with_reducible refine Up.setCell ?_ (by simp only; omega) _)))).mono ?_); intro _) | (at_builtin; with_reducible refine stopA rfl ?_))
  refine hide ?_
  refine wpList_copy elem_box rfl (.tmp 35) (.tmp 36) rfl (w0 := w) (by repeat (first | with_reducible exact HB0.out.1 | with_reducible exact Up.refl _ | with_reducible apply Up.ext | with_reducible apply Up.alloc | with_reducible apply Up.drew | (with_reducible refine Up.setCell ?_ (by simp only; omega) _))) rfl (Box.mk (ext_size _ _)) (by omega) rfl ((of_boxes HL.out).up (by repeat (first | with_reducible exact HB0.out.1 | with_reducible exact Up.refl _ | with_reducible apply Up.ext | with_reducible apply Up.alloc | with_reducible apply Up.drew | (with_reducible refine Up.setCell ?_ (by simp only; omega) _)))) (by omega) (by decide) ?_
  intro g cap W' hu ho hbx
  have H0 := hide (show (Up w W' ∧ Box W' w.heap.size #[.slice a n c, .int .i64 home] 24 ∧ Box W' (w.heap.size + 1) #[.int .i64 (d.l.1), .int .i64 (d.l.2), .int .i64 (d.h.1), .int .i64 (d.h.2), .int .i64 (d.g)] 68) ∧ Boxes (fun b => w.heap.size ≤ b) W' (.slice (some ⟨g, 0, none⟩) l.length cap) l from ⟨⟨hu, hbx _ _ _ (by omega) (by repeat (first | with_reducible exact HB0.out.2.1 | with_reducible apply Box.ext | with_reducible apply Box.alloc | with_reducible apply Box.drew | (with_reducible refine Box.other ?_ (by omega) _ _))), hbx _ _ _ (by omega) (by repeat (first | with_reducible exact HB0.out.2.2 | with_reducible apply Box.ext | with_reducible apply Box.alloc | with_reducible apply Box.drew | (with_reducible refine Box.other ?_ (by omega) _ _)))⟩, boxes_of (ho.lies (by omega))⟩)
  clear hu ho hbx HB0 w0 w1 lw dd0 dd1 dd2 dd3 dd4 ldd
  go_wp2_with fail
  go_loopw [13, 14] (fun s13 s14 wr => ∃ (k : Nat) (a' : Option Addr) (n' c' : Nat) (cur : List BoxD), k ≤ mm ∧ s14 = .int .i64 k ∧ s13 = .slice a' n' c' ∧ Hid (((Up w wr ∧ Box wr w.heap.size #[.slice a n c, .int .i64 home] 24 ∧ Box wr (w.heap.size + 1) #[.int .i64 (d.l.1), .int .i64 (d.l.2), .int .i64 (d.h.1), .int .i64 (d.h.2), .int .i64 (d.g)] 68) ∧ Boxes (fun b => w.heap.size ≤ b) wr (.slice a' n' c') cur) ∧ propV bs d k t l = some cur ∧ (∀ b ∈ cur, BOk b) ∧ cur.length ≤ 512)) (fun _ s14 _ => mm - (intOf s14).toNat)
  case atStart => exact ⟨0, _, _, _, l, by omega, rfl, rfl, hide ⟨H0.out, rfl, HN.out.2, HN.out.1⟩⟩
  case round =>
    obtain ⟨k, a', n', c', cur, hk, rfl, rfl, HI⟩ := hrel
    clear H0
    have w0 := HI.out.1.1.2.1.cell 0 rfl
    have w1 := HI.out.1.1.2.1.cell 1 rfl
    have lw := HI.out.1.1.2.1.lt
    have dd0 := HI.out.1.1.2.2.cell 0 rfl
    have dd1 := HI.out.1.1.2.2.cell 1 rfl
    have dd2 := HI.out.1.1.2.2.cell 2 rfl
    have dd3 := HI.out.1.1.2.2.cell 3 rfl
    have dd4 := HI.out.1.1.2.2.cell 4 rfl
    have ldd := HI.out.1.1.2.2.lt
    by_cases hlt : k < mm
    · have hkb : decide ((k : Int) < mm) = true := by simp; omega
      have hkn : decide (k < mm) = true := by simp; omega
      have HA := hide (HALL.out cur HI.out.2.2.1 HI.out.2.2.2 (t + k) ⟨by omega, by omega⟩ wr HI.out.1.1.1 a' n' c' HI.out.1.2)
      rcases hS : stepsV bs d (t + k) cur with _ | nx
      · rw [hS] at HA
        have HF := hide (show propV bs d mm t l = none from propV_none (k := k + 1) (by rw [propV_succ, HI.out.2.1]; exact hS) (by omega))
        clear hS
        go_wp2_with fail
        go_at_call 147
        refine HA.out.mono ?_
        rintro _ _ ⟨ax, nx, cx, px, rfl, hbx, rfl⟩
        clear hbx HA
        obtain ⟨rfl, rfl⟩ : [] = RL ∧ 14 = RE := by have := HR.out; rw [HF.out] at this; cases this; exact ⟨rfl, rfl⟩
        go_wp2
        refine forgetW (fun WF => Up w WF) (by repeat (first | with_reducible exact HI.out.1.1.1 | with_reducible exact Up.refl _ | with_reducible apply Up.ext | with_reducible apply Up.alloc | with_reducible apply Up.drew | (with_reducible refine Up.setCell ?_ (by simp only; omega) _))) ?_
        rintro WF hu
        exact bodyPost_ret (v := .tuple #[.slice none 0 0, .int .i64 14]) (by simp [results, Tryz.results90, go_sem]) rfl (GivesList.fin hu (Lies.nil _ _ _ _ _ _))
      · rw [hS] at HA
        obtain ⟨hmap, hbk⟩ := stepsV_some hS
        have HF := hide (show propV bs d (k + 1) t l = some nx by rw [propV_succ, HI.out.2.1]; exact hS)
        have HLn := hide (show (∀ b ∈ nx, BOk b) ∧ nx.length ≤ 512 from ⟨hbk, by rw [hmap, List.length_map]; exact HI.out.2.2.2⟩)
        clear hS hmap hbk
        go_wp2_with fail
        go_at_call 147
        refine HA.out.mono ?_
        rintro _ _ ⟨ax, nn, cx, px, rfl, hbx, rfl⟩
        have HBX := hide (show Boxes (fun b => w.heap.size ≤ b) (ext wr px) (.slice ax nn cx) nx from boxes_of ((of_boxes hbx).mono (fun b _ hb => by have := HI.out.1.1.1.below.size; omega)))
        clear hbx HA
        go_wp2_with fail
        go_roundw
        case rel => exact ⟨k + 1, ax, nn, cx, nx, by omega, by go_num, rfl, hide ⟨⟨⟨(by repeat (first | with_reducible exact HI.out.1.1.1 | with_reducible exact Up.refl _ | with_reducible apply Up.ext | with_reducible apply Up.alloc | with_reducible apply Up.drew | (with_reducible refine Up.setCell ?_ (by simp only; omega) _))), (by repeat (first | with_reducible exact HI.out.1.1.2.1 | with_reducible apply Box.ext | with_reducible apply Box.alloc | with_reducible apply Box.drew | (with_reducible refine Box.other ?_ (by omega) _ _))), (by repeat (first | with_reducible exact HI.out.1.1.2.2 | with_reducible apply Box.ext | with_reducible apply Box.alloc | with_reducible apply Box.drew | (with_reducible refine Box.other ?_ (by omega) _ _)))⟩, HBX.out⟩, HF.out, HLn.out⟩⟩
        case measure => simp [intOf]; omega
    · have hkb : decide ((k : Int) < mm) = false := by simp; omega
      have hkn : decide (k < mm) = false := by simp; omega
      have HF := hide (show propV bs d mm t l = some cur by rw [show mm = k by omega]; exact HI.out.2.1)
      obtain ⟨rfl, rfl⟩ : cur = RL ∧ 0 = RE := by have := HR.out; rw [HF.out] at this; cases this; exact ⟨rfl, rfl⟩
      go_wp2
      exact bodyPost_ret (v := .tuple #[.slice a' n' c', .int .i64 0]) (by simp [results, Tryz.results90, go_sem]) rfl (GivesList.fin HI.out.1.1.1 HI.out.1.2)
end Go.Proofs.YtnaiaodnnmhdkaaGreat

/- Which skies are valid: the reference's. Conditions: what lies in memory. -/
namespace Go.Proofs.YtnaiaodnnmhdkaaGreat
set_option linter.unusedVariables false
set_option linter.unusedSimpArgs false
open Go.RowKit Go.Shelf

set_option maxRecDepth 100000 in
set_option maxHeartbeats 4000000 in
theorem scheck_any {K : Nat → Prop} {w : World} {a sa ca : Option Addr} {n c sn sc cn cc : Nat} {s : SkyD} (hb : Bods K w (.slice a n c) s.bodies) (hh : I64 s.home) (hs : Tris K w (.slice sa sn sc) s.stations) (hc : Tris K w (.slice ca cn cc) s.catalogs) :
    Gives Tryz.prog 66 #[.agg #[.slice a n c, .int .i64 s.home, .slice sa sn sc, .slice ca cn cc]] w (.int .i64 (skyE s)) := by
  have HC := hide (fun W (hu : Up w W) => sworld_any (hb.keeps (hu.keeps K)) hh)
  have hsn := (Tris.at hs).1
  have hcn := (Tris.at hc).1
  have hsm := (Tris.at hs).2.1
  have hcm := (Tris.at hc).2.1
  have HS := hide hs
  have HT := hide hc
  generalize hH : s.home = home at *
  by_cases hw : worldE s.bodies home = 0
  rotate_left
  · have hE : skyE s = worldE s.bodies home := by unfold skyE; rw [hH, if_neg hw]
    rw [hE]
    have hwb : (worldE s.bodies home != 0) = true := by simp [hw]
    generalize worldE s.bodies home = e at *
    clear hb hh hs hc hE hsn hcn hw
    (unfold Gives; go_enter Tryz.func66, Tryz.ntmps66)
    go_wp2_with (go_at_call 126; refine (HC.out _ (by repeat (first | with_reducible exact Up.refl _ | with_reducible apply Up.plus | apply Up.ext | apply Up.alloc | apply Up.drew | (refine Up.setCell ?_ (by simp; try omega) _)))).mono ?_; intro _)
    go_ret
    exact ⟨rfl, (by repeat (first | with_reducible exact Up.refl _ | with_reducible apply Up.plus | apply Up.ext | apply Up.alloc | apply Up.drew | (refine Up.setCell ?_ (by simp; try omega) _)))⟩
  · rw [hw] at HC
    by_cases h16 : 16 < sn
    · have hE : skyE s = 8 := by unfold skyE; rw [hH, if_pos hw, if_pos (by omega)]
      rw [hE]
      have hb16 : decide ((16 : Int) < sn) = true := by simp; omega
      have hb16n : decide (16 < sn) = true := by simp; omega
      clear hb hh hs hc hE hsn hcn hw HS HT
      (unfold Gives; go_enter Tryz.func66, Tryz.ntmps66)
      go_wp2_with (go_at_call 126; refine (HC.out _ (by repeat (first | with_reducible exact Up.refl _ | with_reducible apply Up.plus | apply Up.ext | apply Up.alloc | apply Up.drew | (refine Up.setCell ?_ (by simp; try omega) _)))).mono ?_; intro _)
      go_ret
      exact ⟨rfl, (by repeat (first | with_reducible exact Up.refl _ | with_reducible apply Up.plus | apply Up.ext | apply Up.alloc | apply Up.drew | (refine Up.setCell ?_ (by simp; try omega) _)))⟩
    · have hE : skyE s = if stationsE 0 s.stations = 0 then (if 8 < s.catalogs.length then 8 else catalogsE 0 s.catalogs) else stationsE 0 s.stations := by unfold skyE; rw [hH, if_pos hw, if_neg (by omega)]
      have HE := hide hE
      have HN := hide (And.intro hsn hcn)
      have hb16 : decide ((16 : Int) < sn) = false := by simp; omega
      have hb16n : decide (16 < sn) = false := by simp; omega
      clear hb hh hs hc hE hsn hcn hw
      (unfold Gives; go_enter Tryz.func66, Tryz.ntmps66)
      go_wp2_with (go_at_call 126; refine (HC.out _ (by repeat (first | with_reducible exact Up.refl _ | with_reducible apply Up.plus | apply Up.ext | apply Up.alloc | apply Up.drew | (refine Up.setCell ?_ (by simp; try omega) _)))).mono ?_; intro _)
      refine forgetW (fun V => Up w V ∧ Box V w.heap.size #[.slice a n c, .int .i64 home, .slice sa sn sc, .slice ca cn cc] 28) ⟨(by repeat (first | with_reducible exact Up.refl _ | with_reducible apply Up.plus | apply Up.ext | apply Up.alloc | apply Up.drew | (refine Up.setCell ?_ (by simp; try omega) _))), (by repeat (first | exact Box.mk rfl | (refine Box.mk ?_; simp; done) | apply Box.ext | apply Box.drew | apply Box.alloc | apply Box.two1 | (refine Box.other ?_ (by omega) _ _)))⟩ ?_
      rintro V0 ⟨hu0, bx⟩
      have H0 := hide (show (Up w V0 ∧ Box V0 w.heap.size #[.slice a n c, .int .i64 home, .slice sa sn sc, .slice ca cn cc] 28) ∧ stationsE 0 s.stations = stationsE 0 (s.stations.drop 0) from ⟨⟨hu0, bx⟩, rfl⟩)
      clear hu0 bx HC
      go_loopw [4, 5] (fun s4 s22 wr => ∃ (k : Nat) (last : Int), s4 = .int .i64 last ∧ s22 = .int .i64 k ∧ k ≤ sn ∧ Hid ((Up w wr ∧ Box wr w.heap.size #[.slice a n c, .int .i64 home, .slice sa sn sc, .slice ca cn cc] 28) ∧ stationsE 0 s.stations = stationsE last (s.stations.drop k))) (fun _ q _ => sn - (intOf q).toNat)
      case atStart => exact ⟨0, 0, by go_num, by go_num, by omega, H0⟩
      case round =>
        obtain ⟨k, last, rfl, rfl, hk, hJ⟩ := hrel
        clear H0
        have xs2 := hJ.out.1.2.cell 2 rfl
        have lxs := hJ.out.1.2.lt
        by_cases hlt : k < sn
        · have hkb : decide ((k : Int) < sn) = true := by simp; omega
          have hkn : decide (k < sn) = true := by simp; omega
          obtain ⟨b0, o0, p, ea, _, hb0, hp, hI, d0, d1, d2⟩ := (Tris.at (HS.out.keeps (hJ.out.1.1.keeps K))).2.2 k hlt
          subst ea
          have HP := hide (st_at hp last)
          have HI := hide hI
          clear hp hI
          obtain ⟨p0, p1, p2⟩ := p
          dsimp only at d0 d1 d2 HP
          by_cases h1 : p0 ≤ last
          · have h1b : decide (p0 ≤ last) = true := by simpa using h1
            have hR := HP.out
            rw [if_pos h1] at hR
            have HR := hide hR
            clear hR h1 HP
            go_wp2
            go_ret
            refine ⟨ret_int ?_, (by repeat (first | with_reducible exact hJ.out.1.1 | with_reducible exact Up.refl _ | apply Up.ext | apply Up.alloc | apply Up.drew | (refine Up.setCell ?_ (by simp [World.setCell]; try omega) _)))⟩
            have := hJ.out.2
            rw [HR.out] at this
            rw [HE.out, if_neg (by omega), this]
          · have h1b : decide (p0 ≤ last) = false := by simpa using h1
            have HB1 := hide (fun W => sbetween_any p1 (-1048576) 1048576 W)
            have HB2 := hide (fun W => sbetween_any p2 (-1048576) 1048576 W)
            have hR := HP.out
            unfold nearV at hR
            dsimp only at hR
            rw [if_neg h1] at hR
            generalize withinB p1 (-1048576) 1048576 = A at *
            generalize withinB p2 (-1048576) 1048576 = B at *
            have HR := hide hR
            clear hR h1 HP
            cases A
            · go_wp2_with fail
              go_at_call 127
              refine (HB1.out _).mono ?_
              intro pq
              go_wp2
              go_ret
              refine ⟨ret_int ?_, (by repeat (first | with_reducible exact hJ.out.1.1 | with_reducible exact Up.refl _ | apply Up.ext | apply Up.alloc | apply Up.drew | (refine Up.setCell ?_ (by simp [World.setCell]; try omega) _)))⟩
              have := hJ.out.2
              rw [HR.out, Bool.false_and, if_pos rfl] at this
              rw [HE.out, if_neg (by omega), this]
            · cases B
              · go_wp2_with fail
                go_at_call 127
                refine (HB1.out _).mono ?_
                intro pq
                go_wp2_with fail
                go_at_call 127
                refine (HB2.out _).mono ?_
                intro pr
                go_wp2
                go_ret
                refine ⟨ret_int ?_, (by repeat (first | with_reducible exact hJ.out.1.1 | with_reducible exact Up.refl _ | apply Up.ext | apply Up.alloc | apply Up.drew | (refine Up.setCell ?_ (by simp [World.setCell]; try omega) _)))⟩
                have := hJ.out.2
                rw [HR.out, Bool.true_and, if_pos rfl] at this
                rw [HE.out, if_neg (by omega), this]
              · go_wp2_with fail
                go_at_call 127
                refine (HB1.out _).mono ?_
                intro pq
                go_wp2_with fail
                go_at_call 127
                refine (HB2.out _).mono ?_
                intro pr
                go_wp2
                go_roundw
                case rel => exact ⟨k + 1, p0, by go_num, by go_num, by omega, hide ⟨⟨(by repeat (first | with_reducible exact hJ.out.1.1 | with_reducible exact Up.refl _ | apply Up.ext | apply Up.alloc | apply Up.drew | (refine Up.setCell ?_ (by simp [World.setCell]; try omega) _))), (by repeat (first | with_reducible exact hJ.out.1.2 | apply Box.ext | apply Box.drew | apply Box.alloc | (refine Box.other ?_ (by simp; try omega) _ _)))⟩, by rw [hJ.out.2, HR.out, Bool.true_and, if_neg (by simp)]⟩⟩
                case measure => simp [intOf]; omega
        · have hkb : decide ((k : Int) < sn) = false := by simp; omega
          have hkn : decide (k < sn) = false := by simp; omega
          have hst : stationsE 0 s.stations = 0 := by
            rw [hJ.out.2, List.drop_eq_nil_of_le (by have := HN.out.1; omega)]
            rfl
          have hE := HE.out
          rw [if_pos hst] at hE
          have x0 := hJ.out.1.2.cell 3 rfl
          have lx := hJ.out.1.2.lt
          by_cases h8 : 8 < cn
          · have h8b : decide ((8 : Int) < cn) = true := by simp; omega
            have h8n : decide (8 < cn) = true := by simp; omega
            rw [if_pos (by have := HN.out.2; omega)] at hE
            have HE2 := hide hE
            clear hE hst h8
            go_wp2
            go_ret
            exact ⟨ret_int (by rw [HE2.out]), (by repeat (first | with_reducible exact hJ.out.1.1 | with_reducible exact Up.refl _ | apply Up.ext | apply Up.alloc | apply Up.drew | (refine Up.setCell ?_ (by simp [World.setCell]; try omega) _)))⟩
          · have h8b : decide ((8 : Int) < cn) = false := by simp; omega
            have h8n : decide (8 < cn) = false := by simp; omega
            rw [if_neg (by have := HN.out.2; omega)] at hE
            have HE2 := hide hE
            have HU := hide hJ.out.1.1
            have HB := hide hJ.out.1.2
            clear hE hst h8 hJ HE HS
            go_wp2
            refine forgetW (fun V => Up w V ∧ Box V w.heap.size #[.slice a n c, .int .i64 home, .slice sa sn sc, .slice ca cn cc] 28) ⟨(by repeat (first | with_reducible exact HU.out | with_reducible exact Up.refl _ | apply Up.ext | apply Up.alloc | apply Up.drew | (refine Up.setCell ?_ (by simp [World.setCell]; try omega) _))), (by repeat (first | with_reducible exact HB.out | apply Box.ext | apply Box.drew | apply Box.alloc | (refine Box.other ?_ (by simp; try omega) _ _)))⟩ ?_
            rintro V1 ⟨hu1, hb1⟩
            have H1 := hide (show (Up w V1 ∧ Box V1 w.heap.size #[.slice a n c, .int .i64 home, .slice sa sn sc, .slice ca cn cc] 28) ∧ catalogsE 0 s.catalogs = catalogsE 0 (s.catalogs.drop 0) from ⟨⟨hu1, hb1⟩, rfl⟩)
            clear hu1 hb1 x0 lx HU HB xs2 lxs
            go_loopw [4, 7] (fun s4 s46 w2 => ∃ (q : Nat) (last : Int), s4 = .int .i64 last ∧ s46 = .int .i64 q ∧ q ≤ cn ∧ Hid ((Up w w2 ∧ Box w2 w.heap.size #[.slice a n c, .int .i64 home, .slice sa sn sc, .slice ca cn cc] 28) ∧ catalogsE 0 s.catalogs = catalogsE last (s.catalogs.drop q))) (fun _ q _ => cn - (intOf q).toNat)
            case atStart => exact ⟨0, 0, by go_num, by go_num, by omega, H1⟩
            case round =>
              obtain ⟨q, last, rfl, rfl, hq, hJ⟩ := hrel
              clear H1
              have xs3 := hJ.out.1.2.cell 3 rfl
              have lxs := hJ.out.1.2.lt
              by_cases hlq : q < cn
              · have hqb : decide ((q : Int) < cn) = true := by simp; omega
                have hqn : decide (q < cn) = true := by simp; omega
                obtain ⟨b0, o0, p, ea, _, hb0, hp, hI, d0, d1, d2⟩ := (Tris.at (HT.out.keeps (hJ.out.1.1.keeps K))).2.2 q hlq
                subst ea
                have HP := hide (ca_at hp last)
                have HI := hide hI
                clear hp hI
                obtain ⟨p0, p1, p2⟩ := p
                dsimp only at d0 d1 d2 HP
                by_cases h1 : p0 ≤ last
                · have h1b : decide (p0 ≤ last) = true := by simpa using h1
                  have hR := HP.out
                  rw [if_pos h1] at hR
                  have HR := hide hR
                  clear hR h1 HP
                  go_wp2
                  go_ret
                  refine ⟨ret_int ?_, (by repeat (first | with_reducible exact hJ.out.1.1 | with_reducible exact Up.refl _ | apply Up.ext | apply Up.alloc | apply Up.drew | (refine Up.setCell ?_ (by simp [World.setCell]; try omega) _)))⟩
                  rw [HE2.out, hJ.out.2, HR.out]
                · have h1b : decide (p0 ≤ last) = false := by simpa using h1
                  by_cases h2 : p1 < -500000 ∨ p2 < p1 ∨ 500000 < p2
                  · have hR := HP.out
                    rw [if_neg h1, if_pos h2] at hR
                    have HR := hide hR
                    clear hR h1 HP
                    have HF := hide (show Hid (skyE s = 2) from hide (by rw [HE2.out, hJ.out.2, HR.out]))
                    by_cases h3 : p1 < -500000
                    · have h3b : decide (p1 < -500000) = true := by simpa using h3
                      clear h2 h3
                      go_wp2
                      go_ret
                      exact ⟨ret_int (by rw [HF.out.out]), (by repeat (first | with_reducible exact hJ.out.1.1 | with_reducible exact Up.refl _ | apply Up.ext | apply Up.alloc | apply Up.drew | (refine Up.setCell ?_ (by simp [World.setCell]; try omega) _)))⟩
                    · have h3b : decide (p1 < -500000) = false := by simpa using h3
                      by_cases h4 : p2 < p1
                      · have h4b : decide (p2 < p1) = true := by simpa using h4
                        clear h2 h3 h4
                        go_wp2
                        go_ret
                        exact ⟨ret_int (by rw [HF.out.out]), (by repeat (first | with_reducible exact hJ.out.1.1 | with_reducible exact Up.refl _ | apply Up.ext | apply Up.alloc | apply Up.drew | (refine Up.setCell ?_ (by simp [World.setCell]; try omega) _)))⟩
                      · have h4b : decide (p2 < p1) = false := by simpa using h4
                        have h5b : decide (500000 < p2) = true := by simp; omega
                        clear h2 h3 h4
                        go_wp2
                        go_ret
                        exact ⟨ret_int (by rw [HF.out.out]), (by repeat (first | with_reducible exact hJ.out.1.1 | with_reducible exact Up.refl _ | apply Up.ext | apply Up.alloc | apply Up.drew | (refine Up.setCell ?_ (by simp [World.setCell]; try omega) _)))⟩
                  · have hR := HP.out
                    rw [if_neg h1, if_neg h2] at hR
                    have HR := hide hR
                    have h3b : decide (p1 < -500000) = false := by simp; omega
                    have h4b : decide (p2 < p1) = false := by simp; omega
                    have h5b : decide (500000 < p2) = false := by simp; omega
                    clear hR h1 h2 HP
                    go_wp2
                    go_roundw
                    case rel => exact ⟨q + 1, p0, by go_num, by go_num, by omega, hide ⟨⟨(by repeat (first | with_reducible exact hJ.out.1.1 | with_reducible exact Up.refl _ | apply Up.ext | apply Up.alloc | apply Up.drew | (refine Up.setCell ?_ (by simp [World.setCell]; try omega) _))), (by repeat (first | with_reducible exact hJ.out.1.2 | apply Box.ext | apply Box.drew | apply Box.alloc | (refine Box.other ?_ (by simp; try omega) _ _)))⟩, by rw [hJ.out.2, HR.out]⟩⟩
                    case measure => simp [intOf]; omega
              · have hqb : decide ((q : Int) < cn) = false := by simp; omega
                have hqn : decide (q < cn) = false := by simp; omega
                go_wp2
                go_ret
                refine ⟨ret_int ?_, (by repeat (first | with_reducible exact hJ.out.1.1 | with_reducible exact Up.refl _ | apply Up.ext | apply Up.alloc | apply Up.drew | (refine Up.setCell ?_ (by simp [World.setCell]; try omega) _)))⟩
                rw [HE2.out, hJ.out.2, List.drop_eq_nil_of_le (by have := HN.out.2; omega)]
                rfl
end Go.Proofs.YtnaiaodnnmhdkaaGreat

/- A station by its number; where a station is: the reference's. Conditions: what lies in memory. -/
namespace Go.Proofs.YtnaiaodnnmhdkaaGreat
set_option linter.unusedVariables false
set_option linter.unusedSimpArgs false
open Go.RowKit Go.Shelf

end Go.Proofs.YtnaiaodnnmhdkaaGreat

/- Where a station is at a tick: the reference's. Conditions: what lies in memory. -/
namespace Go.Proofs.YtnaiaodnnmhdkaaGreat
set_option linter.unusedVariables false
set_option linter.unusedSimpArgs false
open Go.RowKit Go.Shelf

end Go.Proofs.YtnaiaodnnmhdkaaGreat

/- Reference bolideref06: numbers, squares, quotients, roots, stations and biases. Conditions: bounds, what lies in memory. -/
namespace Go.Proofs.YtnaiaodnnmhdkaaGreat
set_option linter.unusedVariables false
set_option linter.unusedSimpArgs false
open Go.RowKit Go.Shelf

theorem vbetween_any (n lo hi : Int) (w : World) : Gives Tryz.prog 71 #[.int .i64 n, .int .i64 lo, .int .i64 hi] w (.bool (withinB n lo hi)) := by
  unfold withinB
  (unfold Gives; go_enter Tryz.func71, Tryz.ntmps71)
  go_wp2
  all_goals (go_ret; refine ⟨?_, (by repeat (first | with_reducible exact Up.refl _ | with_reducible apply Up.plus | apply Up.ext | apply Up.alloc | apply Up.drew | (refine Up.setCell ?_ (by simp; try omega) _)))⟩)
  all_goals (go_light; first | (simp_all [withinB]; done) | (simp_all [withinB]; omega) | (simp_all [withinB]; repeat' split; all_goals (first | (simp_all; done) | omega | (simp_all; omega))))
end Go.Proofs.YtnaiaodnnmhdkaaGreat

/- Reference bolideref06: stations, biases. Conditions: what lies in memory. -/
namespace Go.Proofs.YtnaiaodnnmhdkaaGreat
set_option linter.unusedVariables false
set_option linter.unusedSimpArgs false
open Go.RowKit Go.Shelf

theorem any_found {α : Type} {f : α → Bool} {l : List α} {k : Nat} {p : α} (hp : l[k]? = some p) (h : f p = true) : l.any f = true := List.any_eq_true.2 ⟨p, List.mem_of_getElem? hp, h⟩
theorem any_none {α : Type} {f : α → Bool} {l : List α} (h : noneYet f l l.length) : l.any f = false := by
  rw [List.any_eq_false]
  intro x hx
  obtain ⟨i, hi, rfl⟩ := List.getElem_of_mem hx
  have := h i l[i] hi (List.getElem?_eq_getElem hi)
  simpa using this
set_option maxRecDepth 100000 in
set_option maxHeartbeats 2000000 in
theorem vhas_any {K : Nat → Prop} {w : World} {a sa ca : Option Addr} {n c sn sc cn cc : Nat} {l : List (Int × Int × Int)} {home : Int} (hs : Tris K w (.slice sa sn sc) l) (id : Int) :
    Gives Tryz.prog 128 #[.agg #[.slice a n c, .int .i64 home, .slice sa sn sc, .slice ca cn cc], .int .i64 id] w (.bool (l.any fun x => x.1 == id)) := by
  have HS := hide hs
  have hm := (Tris.at hs).2.1
  have HN := hide (Tris.at hs).1
  clear hs
  (unfold Gives; go_enter Tryz.func128, Tryz.ntmps128)
  go_wp2_with fail
  refine forgetW (fun V => Up w V ∧ Box V w.heap.size #[.slice a n c, .int .i64 home, .slice sa sn sc, .slice ca cn cc] 28) ⟨(by repeat (first | with_reducible exact Up.refl _ | with_reducible apply Up.plus | apply Up.ext | apply Up.alloc | apply Up.drew | (refine Up.setCell ?_ (by simp; try omega) _))), (by repeat (first | exact Box.mk rfl | (refine Box.mk ?_; simp; done) | apply Box.ext | apply Box.drew | apply Box.alloc | apply Box.two1 | (refine Box.other ?_ (by omega) _ _)))⟩ ?_
  rintro V0 ⟨hu0, b0⟩
  have H0 := hide (show (Up w V0 ∧ Box V0 w.heap.size #[.slice a n c, .int .i64 home, .slice sa sn sc, .slice ca cn cc] 28) ∧ noneYet (fun x : Int × Int × Int => x.1 == id) l 0 from ⟨⟨hu0, b0⟩, fun i p hi _ => by omega⟩)
  clear hu0 b0
  go_loopw [5] (fun s5 wr => ∃ k : Nat, s5 = .int .i64 k ∧ k ≤ sn ∧ Hid ((Up w wr ∧ Box wr w.heap.size #[.slice a n c, .int .i64 home, .slice sa sn sc, .slice ca cn cc] 28) ∧ noneYet (fun x : Int × Int × Int => x.1 == id) l k)) (fun q _ => sn - (intOf q).toNat)
  case atStart => exact ⟨0, by go_num, by omega, H0⟩
  case round =>
    obtain ⟨k, rfl, hk, hJ⟩ := hrel
    clear H0
    have x2 := hJ.out.1.2.cell 2 rfl
    have lx := hJ.out.1.2.lt
    by_cases hlt : k < sn
    · have hkb : decide ((k : Int) < sn) = true := by simp; omega
      have hkn : decide (k < sn) = true := by simp; omega
      obtain ⟨b0, o0, p, ea, _, hb0, hp, hI, d0, d1, d2⟩ := (Tris.at (HS.out.keeps (hJ.out.1.1.keeps K))).2.2 k hlt
      subst ea
      have HP := hide hp
      clear hp hI
      obtain ⟨p0, p1, p2⟩ := p
      dsimp only at d0 d1 d2
      by_cases h1 : p0 = id
      · have h1b : (p0 == id) = true := by simpa using h1
        have HF := hide (show (l.any fun x => x.1 == id) = true from any_found HP.out h1b)
        clear h1
        go_wp2
        go_ret
        exact ⟨ret_bool (by rw [HF.out]), (by repeat (first | with_reducible exact hJ.out.1.1 | with_reducible exact Up.refl _ | apply Up.ext | apply Up.alloc | apply Up.drew | (refine Up.setCell ?_ (by simp [World.setCell]; try omega) _)))⟩
      · have h1b : (p0 == id) = false := by simpa using h1
        have HF := hide (hJ.out.2.succ HP.out h1b)
        replace h1 := hide h1
        go_wp2
        go_roundw
        case rel => exact ⟨k + 1, by go_num, by omega, hide ⟨⟨(by repeat (first | with_reducible exact hJ.out.1.1 | with_reducible exact Up.refl _ | apply Up.ext | apply Up.alloc | apply Up.drew | (refine Up.setCell ?_ (by simp [World.setCell]; try omega) _))), (by repeat (first | with_reducible exact hJ.out.1.2 | apply Box.ext | apply Box.drew | apply Box.alloc | (refine Box.other ?_ (by simp; try omega) _ _)))⟩, HF.out⟩⟩
        case measure => simp [intOf]; omega
    · have hkb : decide ((k : Int) < sn) = false := by simp; omega
      have hkn : decide (k < sn) = false := by simp; omega
      have HF := hide (show (l.any fun x => x.1 == id) = false from any_none (by have := hJ.out.2; rwa [show k = l.length by have := HN.out; omega] at this))
      go_wp2
      go_ret
      exact ⟨ret_bool (by rw [HF.out]), (by repeat (first | with_reducible exact hJ.out.1.1 | with_reducible exact Up.refl _ | apply Up.ext | apply Up.alloc | apply Up.drew | (refine Up.setCell ?_ (by simp [World.setCell]; try omega) _)))⟩
/-- the bias of a catalog, and whether there is one -/
def biasV (l : List (Int × Int × Int)) (v : Int) : (Int × Int) × Bool := match l.find? (fun x => x.1 == v) with
  | some x => (x.2, true)
  | none => ((0, 0), false)
theorem find_found {f : Int × Int × Int → Bool} : ∀ {l : List (Int × Int × Int)} {k : Nat} {p : Int × Int × Int}, noneYet f l k → l[k]? = some p → f p = true → l.find? f = some p
  | [], k, p, _, hp, _ => by simp at hp
  | x :: l, 0, p, _, hp, h => by
    obtain rfl : x = p := by simpa using hp
    rw [List.find?_cons, h]
  | x :: l, k + 1, p, hn, hp, h => by
    have hx : f x = false := hn 0 x (by omega) rfl
    rw [List.find?_cons, hx]
    exact find_found (fun i q hi hq => hn (i + 1) q (Nat.succ_lt_succ hi) (by simpa using hq)) (by simpa using hp) h
theorem biasV_found {l : List (Int × Int × Int)} {v : Int} {k : Nat} {p : Int × Int × Int} (hn : noneYet (fun x : Int × Int × Int => x.1 == v) l k) (hp : l[k]? = some p) (h : (p.1 == v) = true) : biasV l v = (p.2, true) := by
  unfold biasV
  rw [find_found hn hp h]
theorem biasV_none {l : List (Int × Int × Int)} {v : Int} (h : noneYet (fun x : Int × Int × Int => x.1 == v) l l.length) : biasV l v = ((0, 0), false) := by
  unfold biasV
  have := any_none h
  rw [List.any_eq_false] at this
  rw [List.find?_eq_none.2 (fun x hx => by simpa using this x hx)]
set_option maxRecDepth 100000 in
set_option maxHeartbeats 2000000 in
theorem vbias_any {K : Nat → Prop} {w : World} {a sa ca : Option Addr} {n c sn sc cn cc : Nat} {l : List (Int × Int × Int)} {home : Int} (hs : Tris K w (.slice ca cn cc) l) (v : Int) :
    Gives Tryz.prog 121 #[.agg #[.slice a n c, .int .i64 home, .slice sa sn sc, .slice ca cn cc], .int .i64 v] w (.tuple #[.agg #[.int .i64 ((biasV l v).1.1), .int .i64 ((biasV l v).1.2)], .bool (biasV l v).2]) := by
  have HS := hide hs
  have hm := (Tris.at hs).2.1
  have HN := hide (Tris.at hs).1
  clear hs
  (unfold Gives; go_enter Tryz.func121, Tryz.ntmps121)
  go_wp2_with fail
  refine forgetW (fun V => Up w V ∧ Box V w.heap.size #[.slice a n c, .int .i64 home, .slice sa sn sc, .slice ca cn cc] 28 ∧ Box V (w.heap.size + 1) #[.int .i64 (0), .int .i64 (0)] 38) ⟨(by repeat (first | with_reducible exact Up.refl _ | with_reducible apply Up.plus | apply Up.ext | apply Up.alloc | apply Up.drew | (refine Up.setCell ?_ (by simp; try omega) _))), (by repeat (first | exact Box.mk rfl | (refine Box.mk ?_; simp; done) | apply Box.ext | apply Box.drew | apply Box.alloc | apply Box.two1 | (refine Box.other ?_ (by omega) _ _))), (by repeat (first | exact Box.mk rfl | (refine Box.mk ?_; simp; done) | apply Box.ext | apply Box.drew | apply Box.alloc | apply Box.two1 | (refine Box.other ?_ (by omega) _ _)))⟩ ?_
  rintro V0 ⟨hu0, b0, z0⟩
  have H0 := hide (show (Up w V0 ∧ Box V0 w.heap.size #[.slice a n c, .int .i64 home, .slice sa sn sc, .slice ca cn cc] 28 ∧ Box V0 (w.heap.size + 1) #[.int .i64 (0), .int .i64 (0)] 38) ∧ noneYet (fun x : Int × Int × Int => x.1 == v) l 0 from ⟨⟨hu0, b0, z0⟩, fun i p hi _ => by omega⟩)
  clear hu0 b0 z0
  go_loopw [6] (fun s6 wr => ∃ k : Nat, s6 = .int .i64 k ∧ k ≤ cn ∧ Hid ((Up w wr ∧ Box wr w.heap.size #[.slice a n c, .int .i64 home, .slice sa sn sc, .slice ca cn cc] 28 ∧ Box wr (w.heap.size + 1) #[.int .i64 (0), .int .i64 (0)] 38) ∧ noneYet (fun x : Int × Int × Int => x.1 == v) l k)) (fun q _ => cn - (intOf q).toNat)
  case atStart => exact ⟨0, by go_num, by omega, H0⟩
  case round =>
    obtain ⟨k, rfl, hk, hJ⟩ := hrel
    clear H0
    have x3 := hJ.out.1.2.1.cell 3 rfl
    have lx := hJ.out.1.2.1.lt
    have z0 := hJ.out.1.2.2.cell 0 rfl
    have z1 := hJ.out.1.2.2.cell 1 rfl
    have fz0 := hJ.out.1.2.2.frozen 0
    have fz1 := hJ.out.1.2.2.frozen 1
    have lz := hJ.out.1.2.2.lt
    by_cases hlt : k < cn
    · have hkb : decide ((k : Int) < cn) = true := by simp; omega
      have hkn : decide (k < cn) = true := by simp; omega
      obtain ⟨b0, o0, p, ea, _, hb0, hp, hI, d0, d1, d2⟩ := (Tris.at (HS.out.keeps (hJ.out.1.1.keeps K))).2.2 k hlt
      subst ea
      have HP := hide hp
      clear hp hI
      obtain ⟨p0, p1, p2⟩ := p
      dsimp only at d0 d1 d2
      by_cases h1 : p0 = v
      · have h1b : (p0 == v) = true := by simpa using h1
        have HF := hide (biasV_found hJ.out.2 HP.out h1b)
        clear h1
        go_wp2
        refine forgetW (fun WF => Up w WF ∧ Box WF (w.heap.size + 1) #[.int .i64 (p1), .int .i64 (p2)] 38) ⟨((hJ.out.1.1.setCell (q := ⟨w.heap.size + 1, 0, none⟩) (by show w.heap.size ≤ w.heap.size + 1; omega) _).setCell (q := ⟨w.heap.size + 1, 1, none⟩) (by show w.heap.size ≤ w.heap.size + 1; omega) _), (hJ.out.1.2.2.set 0 (.int .i64 p1)).set 1 (.int .i64 p2)⟩ ?_
        rintro WF ⟨huF, hbF⟩
        have w0 := hbF.cell 0 rfl
        have w1 := hbF.cell 1 rfl
        (refine bodyPost_give huF rfl ⟨_, (by simp [results, Tryz.results121, go_sem, w0, w1]; rfl), ?_⟩)
        rw [HF.out]
      · have h1b : (p0 == v) = false := by simpa using h1
        have HF := hide (hJ.out.2.succ HP.out h1b)
        replace h1 := hide h1
        go_wp2
        go_roundw
        case rel => exact ⟨k + 1, by go_num, by omega, hide ⟨⟨(by repeat (first | with_reducible exact hJ.out.1.1 | with_reducible exact Up.refl _ | apply Up.ext | apply Up.alloc | apply Up.drew | (refine Up.setCell ?_ (by simp [World.setCell]; try omega) _))), (by repeat (first | with_reducible exact hJ.out.1.2.1 | apply Box.ext | apply Box.drew | apply Box.alloc | (refine Box.other ?_ (by simp; try omega) _ _))), (by repeat (first | with_reducible exact hJ.out.1.2.2 | apply Box.ext | apply Box.drew | apply Box.alloc | (refine Box.other ?_ (by simp; try omega) _ _)))⟩, HF.out⟩⟩
        case measure => simp [intOf]; omega
    · have hkb : decide ((k : Int) < cn) = false := by simp; omega
      have hkn : decide (k < cn) = false := by simp; omega
      have HF := hide (biasV_none (v := v) (by have := hJ.out.2; rwa [show k = l.length by have := HN.out; omega] at this))
      go_wp2
      refine forgetW (fun WF => Up w WF ∧ Box WF (w.heap.size + 1) #[.int .i64 (0), .int .i64 (0)] 38) ⟨((hJ.out.1.1.setCell (q := ⟨w.heap.size + 1, 0, none⟩) (by show w.heap.size ≤ w.heap.size + 1; omega) _).setCell (q := ⟨w.heap.size + 1, 1, none⟩) (by show w.heap.size ≤ w.heap.size + 1; omega) _), (hJ.out.1.2.2.set 0 (.int .i64 0)).set 1 (.int .i64 0)⟩ ?_
      rintro WF ⟨huF, hbF⟩
      have w0 := hbF.cell 0 rfl
      have w1 := hbF.cell 1 rfl
      (refine bodyPost_give huF rfl ⟨_, (by simp [results, Tryz.results121, go_sem, w0, w1]; rfl), ?_⟩)
      rw [HF.out]
end Go.Proofs.YtnaiaodnnmhdkaaGreat

/- Reference bolideref06: the way to a place, slopes, what is in a field. Conditions: a valid offer, bounds. -/
namespace Go.Proofs.YtnaiaodnnmhdkaaGreat
set_option linter.unusedVariables false
set_option linter.unusedSimpArgs false
open Go.RowKit Go.Shelf

end Go.Proofs.YtnaiaodnnmhdkaaGreat

