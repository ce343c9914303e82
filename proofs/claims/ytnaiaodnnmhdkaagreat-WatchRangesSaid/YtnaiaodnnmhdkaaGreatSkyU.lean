/- Several texts in one. -/
import Derived.Test.YtnaiaodnnmhdkaaGreatSkyE
/- A station by its number; where a station is: the reference's. Conditions: what lies in memory. -/
namespace Go.Proofs.YtnaiaodnnmhdkaaGreat
set_option linter.unusedVariables false
set_option linter.unusedSimpArgs false
open Go.RowKit Go.Shelf

set_option maxRecDepth 100000 in
set_option maxHeartbeats 2000000 in
theorem sstation_any {K : Nat → Prop} {w : World} {a sa ca : Option Addr} {n c sn sc cn cc : Nat} {l : List (Int × Int × Int)} {home : Int} (hs : Tris K w (.slice sa sn sc) l) (id : Int) :
    Gives Tryz.prog 173 #[.agg #[.slice a n c, .int .i64 home, .slice sa sn sc, .slice ca cn cc], .int .i64 id] w (.int .i64 (firstI (fun x => x.1 == id) l)) := by
  have HS := hide hs
  have hm := (Tris.at hs).2.1
  have HN := hide (Tris.at hs).1
  clear hs
  (unfold Gives; go_enter Tryz.func173, Tryz.ntmps173)
  go_wp2_with fail
  refine forgetW (fun V => Up w V ∧ Box V w.heap.size #[.slice a n c, .int .i64 home, .slice sa sn sc, .slice ca cn cc] 28) ⟨(by repeat (first | with_reducible exact Up.refl _ | with_reducible apply Up.plus | apply Up.ext | apply Up.alloc | apply Up.drew | (refine Up.setCell ?_ (by simp; try omega) _))), (by repeat (first | exact Box.mk rfl | (refine Box.mk ?_; simp; done) | apply Box.ext | apply Box.drew | apply Box.alloc | apply Box.two1 | (refine Box.other ?_ (by omega) _ _)))⟩ ?_
  rintro V0 ⟨hu0, b0⟩
  have H0 := hide (show (Up w V0 ∧ Box V0 w.heap.size #[.slice a n c, .int .i64 home, .slice sa sn sc, .slice ca cn cc] 28) ∧ noneYet (fun x : Int × Int × Int => x.1 == id) l 0 from ⟨⟨hu0, b0⟩, fun i p hi _ => by omega⟩)
  clear hu0 b0
  go_loopw [5] (fun s5 wr => ∃ k : Nat, s5 = .int .i64 k ∧ k ≤ sn ∧ Hid ((Up w wr ∧ Box wr w.heap.size #[.slice a n c, .int .i64 home, .slice sa sn sc, .slice ca cn cc] 28) ∧ noneYet (fun x : Int × Int × Int => x.1 == id) l k)) (fun q _ => sn - (intOf q).toNat)
  case atStart => exact ⟨0, by go_num, by omega, H0⟩
  case round =>
    obtain ⟨k, rfl, hk, hJ⟩ := hrel
    clear H0
    have x2 := hJ.out.1.2.cell 2 rfl
    have lx := hJ.out.1.2.lt
    by_cases hlt : k < sn
    · have hkb : decide ((k : Int) < sn) = true := by simp; omega
      have hkn : decide (k < sn) = true := by simp; omega
      obtain ⟨b0, o0, p, ea, _, hb0, hp, hI, d0, d1, d2⟩ := (Tris.at (HS.out.keeps (hJ.out.1.1.keeps K))).2.2 k hlt
      subst ea
      have HP := hide hp
      clear hp hI
      obtain ⟨p0, p1, p2⟩ := p
      dsimp only at d0 d1 d2
      by_cases h1 : p0 = id
      · have h1b : (p0 == id) = true := by simpa using h1
        have HF := hide (show firstI (fun x : Int × Int × Int => x.1 == id) l = k from firstI_found hJ.out.2 HP.out h1b)
        clear h1
        go_wp2
        go_ret
        exact ⟨ret_int (by rw [HF.out]), (by repeat (first | with_reducible exact hJ.out.1.1 | with_reducible exact Up.refl _ | apply Up.ext | apply Up.alloc | apply Up.drew | (refine Up.setCell ?_ (by simp [World.setCell]; try omega) _)))⟩
      · have h1b : (p0 == id) = false := by simpa using h1
        have HF := hide (hJ.out.2.succ HP.out h1b)
        replace h1 := hide h1
        go_wp2
        go_roundw
        case rel => exact ⟨k + 1, by go_num, by omega, hide ⟨⟨(by repeat (first | with_reducible exact hJ.out.1.1 | with_reducible exact Up.refl _ | apply Up.ext | apply Up.alloc | apply Up.drew | (refine Up.setCell ?_ (by simp [World.setCell]; try omega) _))), (by repeat (first | with_reducible exact hJ.out.1.2 | apply Box.ext | apply Box.drew | apply Box.alloc | (refine Box.other ?_ (by simp; try omega) _ _)))⟩, HF.out⟩⟩
        case measure => simp [intOf]; omega
    · have hkb : decide ((k : Int) < sn) = false := by simp; omega
      have hkn : decide (k < sn) = false := by simp; omega
      have HF := hide (show firstI (fun x : Int × Int × Int => x.1 == id) l = -1 from firstI_none (by have := hJ.out.2; rwa [show k = l.length by have := HN.out; omega] at this))
      go_wp2
      go_ret
      exact ⟨ret_int (by rw [HF.out]), (by repeat (first | with_reducible exact hJ.out.1.1 | with_reducible exact Up.refl _ | apply Up.ext | apply Up.alloc | apply Up.drew | (refine Up.setCell ?_ (by simp [World.setCell]; try omega) _)))⟩
set_option maxRecDepth 100000 in
set_option maxHeartbeats 2000000 in
theorem swhere0_any {K : Nat → Prop} {w : World} {a sa ca : Option Addr} {n c sn sc cn cc j i : Nat} {bs : List Bod} {l : List (Int × Int × Int)} {t : Int} {b : Bod} {x : Int × Int × Int} (hb : Bods K w (.slice a n c) bs) (hp : bs[j]? = some b) (he : bodyE b = 0) (hs : Tris K w (.slice sa sn sc) l) (hx : l[i]? = some x) (t0 : 0 ≤ t) (t1 : t ≤ 9223372036854775807)
    (hxb : (-1048576 ≤ x.2.1 ∧ x.2.1 ≤ 1048576) ∧ -1048576 ≤ x.2.2 ∧ x.2.2 ≤ 1048576) :
    Gives Tryz.prog 174 #[.agg #[.slice a n c, .int .i64 j, .slice sa sn sc, .slice ca cn cc], .int .i64 i, .int .i64 t] w (.agg #[.int .i64 ((placeV b t).1 + x.2.1), .int .i64 ((placeV b t).2 + x.2.2)]) := by
  have HA := hide (fun W (hu : Up w W) => sat_any (home := j) (hb.keeps (hu.keeps K)) hp he t0 t1)
  have hbd := (bodyE_zero he).2.2.2.2 _ (placeV_mem (bodyE_zero he).2.2.1 t)
  have hin : i < sn := by have := (Tris.at hs).1; have := (List.getElem?_eq_some_iff.1 hx).1; omega
  have hsm := (Tris.at hs).2.1
  obtain ⟨b0, o0, p, ea, _, hb0, hpp, _, d0, d1, d2⟩ := (Tris.at hs).2.2 i hin
  rw [hx] at hpp
  cases hpp
  subst ea
  obtain ⟨x0, x1, x2⟩ := x
  generalize placeV b t = P at *
  obtain ⟨P1, P2⟩ := P
  dsimp only at *
  have HP := hide (And.intro hb0 (And.intro d1 d2))
  clear hb hp he hs hx d0 d1 d2
  (unfold Gives; go_enter Tryz.func174, Tryz.ntmps174)
  go_wp2_with fail
  go_at_call 172
  refine (HA.out _ (by repeat (first | with_reducible exact Up.refl _ | with_reducible apply Up.plus | apply Up.ext | apply Up.alloc | apply Up.drew | (refine Up.setCell ?_ (by simp; try omega) _)))).mono ?_
  intro p1
  go_wp2_with fail
  obtain ⟨Q, hQ⟩ : ∃ T, w.heap.size + 1 + 1 + p1.os.size = T := ⟨_, rfl⟩
  try rw [hQ]
  refine forgetW (fun V => Up w V ∧ Box V w.heap.size #[.slice a n c, .int .i64 j, .slice (some ⟨b0, o0, none⟩) sn sc, .slice ca cn cc] 28 ∧ Box V (w.heap.size + 1) #[.int .i64 (0), .int .i64 (0)] 30 ∧ Box V Q #[.int .i64 (P1), .int .i64 (P2)] 30) ⟨(by repeat (first | with_reducible exact Up.refl _ | with_reducible apply Up.plus | apply Up.ext | apply Up.alloc | apply Up.drew | (refine Up.setCell ?_ (by simp; try omega) _))), (by repeat (first | exact Box.mk rfl | (refine Box.mk ?_; simp; done) | apply Box.ext | apply Box.drew | apply Box.alloc | apply Box.two1 | (refine Box.other ?_ (by omega) _ _))), (by repeat (first | exact Box.mk rfl | (refine Box.mk ?_; simp; done) | apply Box.ext | apply Box.drew | apply Box.alloc | apply Box.two1 | (refine Box.other ?_ (by omega) _ _))), by rw [← hQ]; exact (by repeat (first | exact Box.mk rfl | (refine Box.mk ?_; simp; done) | apply Box.ext | apply Box.drew | apply Box.alloc | apply Box.two1 | (refine Box.other ?_ (by omega) _ _)))⟩ ?_
  rintro V ⟨hu, bs', bz, bq⟩
  clear hQ
  have s2 := bs'.cell 2 rfl
  have ls := bs'.lt
  have z0 := bz.cell 0 rfl
  have z1 := bz.cell 1 rfl
  have lz := bz.lt
  have fz0 := bz.frozen 0
  have fz1 := bz.frozen 1
  have q0 := bq.cell 0 rfl
  have q1 := bq.cell 1 rfl
  have lq := bq.lt
  have e1 : V.cell? ⟨b0, o0 + i * 3 + 1, none⟩ = some (.int .i64 x1) := (World.cell?_of_block (a := ⟨b0, o0 + i * 3 + 1, none⟩) (hu.below.block b0 HP.out.1)).trans HP.out.2.1
  have e2 : V.cell? ⟨b0, o0 + i * 3 + 2, none⟩ = some (.int .i64 x2) := (World.cell?_of_block (a := ⟨b0, o0 + i * 3 + 2, none⟩) (hu.below.block b0 HP.out.1)).trans HP.out.2.2
  have lb0 : b0 < V.heap.size := Nat.lt_of_lt_of_le HP.out.1 hu.below.size
  have HB := hide (And.intro hu bz)
  clear hu bs' bz bq
  ((first | with_reducible refine wp_region_ext_tail2 1 (by kernel_rfl) (by kernel_rfl) ?_ | refine wp_region_ext_tail 1 (by kernel_rfl) (by kernel_rfl) ?_); simp only [List.length_cons, List.length_nil, Nat.reduceAdd, Nat.reduceSub, List.take_succ_cons, List.take_zero, List.drop_succ_cons, List.drop_zero]; (repeat (go_big_quiet_step (fail))); refine wpQuiet_nil ?_; intro _ hw'; obtain ⟨_, hw''⟩ := hw'; subst hw'')
  go_wp2_with fail
  refine forgetW (fun WF => Up w WF ∧ Box WF (w.heap.size + 1) #[.int .i64 (P1 + x1), .int .i64 (P2 + x2)] 30) ⟨(by repeat (first | with_reducible exact HB.out.1 | with_reducible apply Up.ext | with_reducible apply Up.alloc | with_reducible apply Up.drew | (with_reducible refine Up.setCell ?_ (by simp only; omega) _))), ?_⟩ ?_
  · exact (by (repeat (first | with_reducible apply Box.ext | with_reducible apply Box.alloc | with_reducible apply Box.drew)); exact (HB.out.2.set 0 (.int .i64 (P1 + x1))).set 1 (.int .i64 (P2 + x2)))
  rintro WF ⟨huF, hbF⟩
  have w0 := hbF.cell 0 rfl
  have w1 := hbF.cell 1 rfl
  (refine bodyPost_give huF rfl ⟨_, (by simp [results, Tryz.results174, go_sem, w0, w1]; rfl), ?_⟩)
  rfl
end Go.Proofs.YtnaiaodnnmhdkaaGreat

/- Where a station is at a tick: the reference's. Conditions: what lies in memory. -/
namespace Go.Proofs.YtnaiaodnnmhdkaaGreat
set_option linter.unusedVariables false
set_option linter.unusedSimpArgs false
open Go.RowKit Go.Shelf

set_option maxRecDepth 100000 in
set_option maxHeartbeats 4000000 in
theorem sWhere_any {K : Nat → Prop} {w : World} {a sa ca : Option Addr} {n c sn sc cn cc : Nat} {s : SkyD} (hb : Bods K w (.slice a n c) s.bodies) (hh : I64 s.home) (hs : Tris K w (.slice sa sn sc) s.stations) (hc : Tris K w (.slice ca cn cc) s.catalogs) (id t : Int) :
    Gives Tryz.prog 138 #[.agg #[.slice a n c, .int .i64 s.home, .slice sa sn sc, .slice ca cn cc], .int .i64 id, .int .i64 t] w (.tuple #[.agg #[.int .i64 ((whereV s id t).1), .int .i64 ((whereV s id t).2.1)], .bool (whereV s id t).2.2]) := by
  have HC := hide (fun W (hu : Up w W) => scheck_any (hb.keeps (hu.keeps K)) hh (hs.keeps (hu.keeps K)) (hc.keeps (hu.keeps K)))
  have HW := hide (fun W => sbetween_any t 0 1073741824 W)
  have HST := hide (fun W (hu : Up w W) => sstation_any (a := a) (n := n) (c := c) (ca := ca) (cn := cn) (cc := cc) (home := s.home) (hs.keeps (hu.keeps K)) id)
  unfold whereV
  by_cases he : skyE s = 0
  rotate_left
  · rw [if_neg (by simp [he])]
    have heb : (skyE s != 0) = true := by simp [he]
    generalize skyE s = e at *
    generalize s.home = home at *
    clear hb hs hc he HST
    (unfold Gives; go_enter Tryz.func138, Tryz.ntmps138)
    go_wp2_with (go_at_call 66; refine (HC.out _ (by repeat (first | with_reducible exact Up.refl _ | with_reducible apply Up.plus | apply Up.ext | apply Up.alloc | apply Up.drew | (refine Up.setCell ?_ (by simp; try omega) _)))).mono ?_; intro _)
    (refine bodyPost_give (by repeat (first | with_reducible exact Up.refl _ | with_reducible apply Up.plus | apply Up.ext | apply Up.alloc | apply Up.drew | (refine Up.setCell ?_ (by simp; try omega) _))) rfl ⟨_, (by simp [results, Tryz.results138, go_sem]; rfl), ?_⟩)
    rfl
  rw [he] at HC
  have hst := (skyE_zero he).2.2.1
  cases hf : s.stations.find? (fun x => x.1 == id) with
  | none =>
    rw [firstI_no hf] at HST
    rw [show (if skyE s = 0 ∧ withinB t 0 1073741824 = true then (match (none : Option (Int × Int × Int)), s.bodies[s.home.toNat]? with | some x, some b => ((placeV b t).1 + x.2.1, (placeV b t).2 + x.2.2, true) | _, _ => (0, 0, false)) else (0, 0, false)) = (0, 0, false) by split <;> rfl]
    generalize s.home = home at *
    clear hb hs hc he hst hf
    (unfold Gives; go_enter Tryz.func138, Tryz.ntmps138)
    go_wp2_with (first | (go_at_call 66; refine (HC.out _ (by repeat (first | with_reducible exact Up.refl _ | with_reducible apply Up.plus | apply Up.ext | apply Up.alloc | apply Up.drew | (refine Up.setCell ?_ (by simp; try omega) _)))).mono ?_; intro _) | (go_at_call 173; refine (HST.out _ (by repeat (first | with_reducible exact Up.refl _ | with_reducible apply Up.plus | apply Up.ext | apply Up.alloc | apply Up.drew | (refine Up.setCell ?_ (by simp; try omega) _)))).mono ?_; intro _))
    (refine bodyPost_give (by repeat (first | with_reducible exact Up.refl _ | with_reducible apply Up.plus | apply Up.ext | apply Up.alloc | apply Up.drew | (refine Up.setCell ?_ (by simp; try omega) _))) rfl ⟨_, (by simp [results, Tryz.results138, go_sem]; rfl), ?_⟩)
    rfl
  | some x =>
    obtain ⟨k, hk, hxk⟩ := firstI_some hf
    rw [hk] at HST
    have hkb : decide ((k : Int) < 0) = false := by simp
    by_cases ht : withinB t 0 1073741824 = true
    rotate_left
    · rw [if_neg (by simp [ht])]
      rw [show withinB t 0 1073741824 = false by simpa using ht] at HW
      generalize s.home = home at *
      clear hb hs hc he hst hf hk hxk ht
      (unfold Gives; go_enter Tryz.func138, Tryz.ntmps138)
      go_wp2_with (first | (go_at_call 66; refine (HC.out _ (by repeat (first | with_reducible exact Up.refl _ | with_reducible apply Up.plus | apply Up.ext | apply Up.alloc | apply Up.drew | (refine Up.setCell ?_ (by simp; try omega) _)))).mono ?_; intro _) | (go_at_call 173; refine (HST.out _ (by repeat (first | with_reducible exact Up.refl _ | with_reducible apply Up.plus | apply Up.ext | apply Up.alloc | apply Up.drew | (refine Up.setCell ?_ (by simp; try omega) _)))).mono ?_; intro _) | (go_at_call 127; refine (HW.out _).mono ?_; intro _))
      (refine bodyPost_give (by repeat (first | with_reducible exact Up.refl _ | with_reducible apply Up.plus | apply Up.ext | apply Up.alloc | apply Up.drew | (refine Up.setCell ?_ (by simp; try omega) _))) rfl ⟨_, (by simp [results, Tryz.results138, go_sem]; rfl), ?_⟩)
      rfl
    rw [if_pos ⟨he, ht⟩]
    rw [ht] at HW
    obtain ⟨hw, _⟩ := skyE_zero he
    obtain ⟨_, _, hbe, h0, h1⟩ := worldE_zero hw
    obtain ⟨j, hj⟩ := Int.eq_ofNat_of_zero_le h0
    have hjn : j < s.bodies.length := by omega
    have hph : s.bodies[s.home.toNat]? = some s.bodies[j] := by rw [hj]; exact List.getElem?_eq_getElem hjn
    have ht2 : 0 ≤ t ∧ t ≤ 1073741824 := by simpa [withinB] using ht
    have hxm := stationsE_mem _ _ x hst (List.mem_of_find?_eq_some hf)
    have HWH := hide (fun W (hu : Up w W) => swhere0_any (t := t) (ca := ca) (cn := cn) (cc := cc) (hb.keeps (hu.keeps K)) (List.getElem?_eq_getElem hjn) (hbe _ (List.getElem_mem hjn)) (hs.keeps (hu.keeps K)) hxk (by omega) (by omega) hxm)
    rw [hph]
    dsimp only
    rw [hj] at HC HST ⊢
    generalize (placeV s.bodies[j] t).1 + x.2.1 = X at *
    generalize (placeV s.bodies[j] t).2 + x.2.2 = Y at *
    clear hb hs hc he hst hf hk hxk ht hw hbe h0 h1 hj hph ht2 hxm hh
    (unfold Gives; go_enter Tryz.func138, Tryz.ntmps138)
    go_wp2_with (first | (go_at_call 66; refine (HC.out _ (by repeat (first | with_reducible exact Up.refl _ | with_reducible apply Up.plus | apply Up.ext | apply Up.alloc | apply Up.drew | (refine Up.setCell ?_ (by simp; try omega) _)))).mono ?_; intro _) | (go_at_call 173; refine (HST.out _ (by repeat (first | with_reducible exact Up.refl _ | with_reducible apply Up.plus | apply Up.ext | apply Up.alloc | apply Up.drew | (refine Up.setCell ?_ (by simp; try omega) _)))).mono ?_; intro _) | (go_at_call 127; refine (HW.out _).mono ?_; intro _))
    refine forgetW (fun V => Up w V ∧ Box V w.heap.size #[.slice a n c, .int .i64 j, .slice sa sn sc, .slice ca cn cc] 28 ∧ Box V (w.heap.size + 1) #[.int .i64 (0), .int .i64 (0)] 30) ⟨(by repeat (first | with_reducible exact Up.refl _ | with_reducible apply Up.plus | apply Up.ext | apply Up.alloc | apply Up.drew | (refine Up.setCell ?_ (by simp; try omega) _))), (by repeat (first | exact Box.mk rfl | (refine Box.mk ?_; simp; done) | apply Box.ext | apply Box.drew | apply Box.alloc | apply Box.two1 | (refine Box.other ?_ (by omega) _ _))), (by repeat (first | exact Box.mk rfl | (refine Box.mk ?_; simp; done) | apply Box.ext | apply Box.drew | apply Box.alloc | apply Box.two1 | (refine Box.other ?_ (by omega) _ _)))⟩ ?_
    rintro V ⟨hu, bs', bz⟩
    have s0 := bs'.cell 0 rfl
    have s1 := bs'.cell 1 rfl
    have s2 := bs'.cell 2 rfl
    have s3 := bs'.cell 3 rfl
    have ls := bs'.lt
    have z0 := bz.cell 0 rfl
    have z1 := bz.cell 1 rfl
    have lz := bz.lt
    have fz0 := bz.frozen 0
    have fz1 := bz.frozen 1
    have HB := hide (And.intro hu bz)
    clear hu bs' bz
    ((first | with_reducible refine wp_region_ext_tail2 2 (by kernel_rfl) (by kernel_rfl) ?_ | refine wp_region_ext_tail 2 (by kernel_rfl) (by kernel_rfl) ?_); simp only [List.length_cons, List.length_nil, Nat.reduceAdd, Nat.reduceSub, List.take_succ_cons, List.take_zero, List.drop_succ_cons, List.drop_zero]; (repeat (go_big_quiet_step ((first | (go_at_call 173; with_reducible exact Gives.inRegion (HST.out _ (HB.out.1.ext _))) | (go_at_call 174; with_reducible exact Gives.inRegion (HWH.out _ (HB.out.1.ext _))))))); refine wpQuiet_nil ?_; intro _ hw'; obtain ⟨_, hw''⟩ := hw'; subst hw'')
    go_wp2_with fail
    refine forgetW (fun WF => Up w WF ∧ Box WF (w.heap.size + 1) #[.int .i64 (X), .int .i64 (Y)] 30) ⟨(by repeat (first | with_reducible exact HB.out.1 | with_reducible apply Up.ext | with_reducible apply Up.alloc | with_reducible apply Up.drew | (with_reducible refine Up.setCell ?_ (by simp only; omega) _))), ?_⟩ ?_
    · exact (by (repeat (first | with_reducible apply Box.ext | with_reducible apply Box.alloc | with_reducible apply Box.drew)); exact (HB.out.2.set 0 (.int .i64 X)).set 1 (.int .i64 Y))
    rintro WF ⟨huF, hbF⟩
    have w0 := hbF.cell 0 rfl
    have w1 := hbF.cell 1 rfl
    (refine bodyPost_give huF rfl ⟨_, (by simp [results, Tryz.results138, go_sem, w0, w1]; rfl), ?_⟩)
    rfl
end Go.Proofs.YtnaiaodnnmhdkaaGreat

