/- Several texts in one. -/
import Derived.Test.YtbcgdhldkanecaaGreatEnerQ
import Derived.Test.YtbcgdhldkanecaaGreatEnergy
import Derived.Test.YtbcgdhldkanecaaGreatFRefE
import Derived.Test.YtbcgdhldkanecaaGreatRaw
import Derived.Test.YtbcgdhldkanecaaGreatSkyOf
/- What moves a body in any valid world: the program's sum is the reference's. No program. -/
namespace Go.Proofs.YtbcgdhldkanecaaGreat
set_option linter.unusedVariables false
set_option linter.unusedSimpArgs false
open Go.RowKit

theorem pull_ordV {b : Bod} (h : bodyE b = 0) {t : Int} {a : Ar} (ha : OrdA 33554432 a) : OrdA 1048576 (pullB t a b) := by
  obtain ⟨h1, h2, h3, _, h4⟩ := bodyE_zero h
  have hp := h4 _ (placeV_mem h3 t)
  have ho := toP_ord (p := placeV b t) (by omega) (by omega) ha
  have hq := sqs_bd (r := b.radius) (by omega) (by omega) ho
  have hd := dist_bd (r := b.radius) (by omega) (by omega) ho
  unfold pullB
  rw [pullP_val h1.1 h1.2 (by omega) (by omega) (by omega) (by omega) ha]
  have l1 := lowT_ord (mu := b.mu) (x := arX (toP (placeV b t) a)) (q := (sqsL b.radius (toP (placeV b t) a), sqsH b.radius (toP (placeV b t) a))) (r := (isq (sqsL b.radius (toP (placeV b t) a)), upq (sqsH b.radius (toP (placeV b t) a)))) h1.1 ho.1.2.1 hq.1 hq.2.1 hd.1
  have l2 := lowT_ord (mu := b.mu) (x := arY (toP (placeV b t) a)) (q := (sqsL b.radius (toP (placeV b t) a), sqsH b.radius (toP (placeV b t) a))) (r := (isq (sqsL b.radius (toP (placeV b t) a)), upq (sqsH b.radius (toP (placeV b t) a)))) h1.1 ho.2.2.1 hq.1 hq.2.1 hd.1
  have d1 := @lowT_bd b.mu (arX (toP (placeV b t) a)) (sqsL b.radius (toP (placeV b t) a), sqsH b.radius (toP (placeV b t) a)) (isq (sqsL b.radius (toP (placeV b t) a)), upq (sqsH b.radius (toP (placeV b t) a)))
  have d2 := @lowT_bd b.mu (arY (toP (placeV b t) a)) (sqsL b.radius (toP (placeV b t) a), sqsH b.radius (toP (placeV b t) a)) (isq (sqsL b.radius (toP (placeV b t) a)), upq (sqsH b.radius (toP (placeV b t) a)))
  have d3 := @lowT_bd b.mu (minusP (arX (toP (placeV b t) a))) (sqsL b.radius (toP (placeV b t) a), sqsH b.radius (toP (placeV b t) a)) (isq (sqsL b.radius (toP (placeV b t) a)), upq (sqsH b.radius (toP (placeV b t) a)))
  have d4 := @lowT_bd b.mu (minusP (arY (toP (placeV b t) a))) (sqsL b.radius (toP (placeV b t) a), sqsH b.radius (toP (placeV b t) a)) (isq (sqsL b.radius (toP (placeV b t) a)), upq (sqsH b.radius (toP (placeV b t) a)))
  refine ⟨⟨?_, ?_, ?_⟩, ?_, ?_, ?_⟩ <;> simp only [arX, arY] at * <;> omega
theorem over_allV {l h : Sp} {g t : Int} {a : Ar} {bs : List Bod} (hl : Ord 1000 l) (hh : Ord 1000 h) (g0 : 0 ≤ g) (g1 : g ≤ 1000) (hn : 1 ≤ bs.length ∧ bs.length ≤ 8) (hb : ∀ b ∈ bs, bodyE b = 0) (ha : OrdA 33554432 a) :
    (pullsL t a bs).foldl (overStep l h) (gasP g) = allS l h g (bs.map (pullB t a)) := by
  match bs, hn with
  | b :: bs, hn =>
    obtain ⟨hb0, hb1⟩ := List.forall_mem_cons.1 hb
    have hp := pull_ordV hb0 (t := t) ha
    have e : pullsL t a (b :: bs) = (0, pullB t a b) :: (List.range bs.length).map (fun (i : Nat) => (((i : Int) + 1), pullB t a (bs.getD i ⟨0, 0, []⟩))) := by
      unfold pullsL
      rw [List.length_cons, List.range_succ_eq_map]
      simp [List.map_map, Function.comp_def]
    rw [e, List.foldl_cons]
    have hbase := gas_ord g0 g1
    have e2 : overStep l h (gasP g) (0, pullB t a b) = plusA (baseS l h g (pullB t a b)) (pullB t a b) := by
      unfold overStep baseS
      rw [if_pos rfl]
      simp only
      rw [sum0_two hbase hp (by omega) (by omega) (by omega), sum0_three (plus_ord hbase hp) (light_ord hl hp) (heat_ord hh hp) (by omega) (by omega) (by omega) (by omega)]
      exact (plus_comm3 _ _ _ _).symm
    have hob : OrdA (1000 + 1048576 + 1048576 + 1048576) (plusA (baseS l h g (pullB t a b)) (pullB t a b)) := plus_ord (plus_ord (plus_ord hbase (light_ord hl hp)) (heat_ord hh hp)) hp
    rw [e2, fold_rest _ _ _ hob (by omega) (by simp only [List.length_map, List.length_range, List.length_cons] at hn ⊢; omega) (fun x hx => by
      obtain ⟨i, hi, rfl⟩ := List.mem_map.1 hx
      have hi' := List.mem_range.1 hi
      refine ⟨by simp only; omega, ?_⟩
      simp only
      rw [List.getD_eq_getElem?_getD, List.getElem?_eq_getElem hi']
      exact pull_ordV (hb1 _ (List.getElem_mem hi')) ha)]
    unfold allS
    rw [List.map_cons, List.headD_cons, List.foldl_cons, List.map_map]
    congr 1
    apply List.ext_getElem
    · simp
    · intro i h1 h2
      simp
      rw [List.getElem?_eq_getElem (by simpa using h1)]
      rfl
theorem fold_sumP : ∀ (ps : List Ar) (o : Ar) (m : Int), OrdA m o → 0 ≤ m → m + 1048576 * ps.length ≤ 1000000000000 → (∀ p ∈ ps, OrdA 1048576 p) → ps.foldl sumP o = ps.foldl plusA o
  | [], _, _, _, _, _, _ => rfl
  | p :: ps, o, m, ho, m0, hm, hp => by
    obtain ⟨h1, h2⟩ := List.forall_mem_cons.1 hp
    simp only [List.length_cons] at hm
    rw [List.foldl_cons, List.foldl_cons, sumP_plus ho h1 (by omega) m0 (by omega)]
    exact fold_sumP ps _ (m + 1048576) (plus_ord ho h1) (by omega) (by omega) h2
theorem overR_all {l h : Sp} {g t : Int} {a : Ar} {bs : List Bod} (hl : Ord 1000 l) (hh : Ord 1000 h) (g0 : 0 ≤ g) (g1 : g ≤ 1000) (hn : 1 ≤ bs.length ∧ bs.length ≤ 8) (hb : ∀ b ∈ bs, bodyE b = 0) (ha : OrdA 33554432 a) :
    overR bs l h g t a = allS l h g (bs.map (pullB t a)) := by
  have hp : ∀ p ∈ bs.map (pullB t a), OrdA 1048576 p := fun p hp => by
    obtain ⟨b, hb', rfl⟩ := List.mem_map.1 hp
    exact pull_ordV (hb b hb') ha
  have hd : OrdA 1048576 ((bs.map (pullB t a)).headD (0, 0, 0, 0)) := by
    match bs, hn, hp with
    | b :: bs, _, hp => exact hp _ (by simp)
  have h1 := gas_ord g0 g1
  have h2 := plus_ord h1 (light_ord hl hd)
  have h3 := plus_ord h2 (heat_ord hh hd)
  unfold overR allS
  rw [sumP_plus h1 (light_ord hl hd) (by omega) (by omega) (by omega), sumP_plus h2 (heat_ord hh hd) (by omega) (by omega) (by omega)]
  exact fold_sumP _ _ _ h3 (by omega) (by simp only [List.length_map]; omega) hp
/-- the program's value is the reference's -/
theorem over_ref {bs : List Bod} {home : Int} {l h : Sp} {g t : Int} {a : Ar} (he : askedE bs home l h g t a = 0) : (pullsL t a bs).foldl (overStep l h) (gasP g) = overR bs l h g t a := by
  obtain ⟨h1, h2, _, h4, h5, h6⟩ := asked_zero he
  obtain ⟨w1, w2, w3, _⟩ := worldE_zero h1
  have hn : 1 ≤ bs.length ∧ bs.length ≤ 8 := ⟨List.length_pos_iff.2 w1, w2⟩
  have hd : (0 ≤ l.1 ∧ l.1 ≤ l.2 ∧ l.2 ≤ 1000) ∧ (-1000 ≤ h.1 ∧ h.1 ≤ h.2 ∧ h.2 ≤ 1000) ∧ 0 ≤ g ∧ g ≤ 1000 := by
    unfold driftE at h2
    by_cases e1 : boundedE l.1 l.2 0 1000 = 0
    · rw [if_pos e1] at h2
      by_cases e2 : boundedE h.1 h.2 (-1000) 1000 = 0
      · rw [if_pos e2] at h2
        by_cases e3 : withinB g 0 1000 = true
        · unfold boundedE at e1 e2
          simp [withinB] at e3
          split at e1
          · omega
          split at e1
          · omega
          split at e2
          · omega
          split at e2
          · omega
          omega
        · rw [if_neg e3] at h2; omega
      · rw [if_neg e2] at h2; exact absurd h2 e2
    · rw [if_neg e1] at h2; exact absurd h2 e1
  have hv : checkE a.1 a.2.1 = 0 ∧ checkE a.2.2.1 a.2.2.2 = 0 := by
    unfold areaE at h4
    split at h4
    · rename_i hv; exact valid_zero hv
    · rename_i hv; exact absurd h4 hv
  have ha : OrdA 33554432 a := ⟨limB_ord h5 (check_zero hv.1).2.1, limB_ord h6 (check_zero hv.2).2.1⟩
  have hl : Ord 1000 l := ⟨by omega, hd.1.2.1, hd.1.2.2⟩
  rw [over_allV hl hd.2.1 hd.2.2.1 hd.2.2.2 hn w3 ha, overR_all hl hd.2.1 hd.2.2.1 hd.2.2.2 hn w3 ha]
end Go.Proofs.YtbcgdhldkanecaaGreat

/- The reference of package force: all that moves a body in an area, at a place. Conditions: what lies in memory. -/
namespace Go.Proofs.YtbcgdhldkanecaaGreat
set_option linter.unusedVariables false
set_option linter.unusedSimpArgs false
open Go.RowKit Go.Shelf

theorem Tryz.infoarea : (Tryz.prog.info? 30).map (fun i => (i.zero, i.size, i.bytes)) = some (some (.agg #[.int .i64 (0), .int .i64 (0), .int .i64 (0), .int .i64 (0)]), 4, 32) := by kernel_rfl
def RAre (p : Ar) (vs : List Value) : Prop := vs = [.int .i64 p.1, .int .i64 p.2.1, .int .i64 p.2.2.1, .int .i64 p.2.2.2]
/-- the parts, in the reference's order -/
def partsR (L H : Ar) (bs : List Bod) (t : Int) (a : Ar) : List Ar := L :: H :: bs.map (pullB t a)
theorem partsR_fold {bs : List Bod} (l h : Sp) (g t : Int) (a : Ar) (hb : 0 < bs.length) : (partsR (lightP l (pullB t a (bs.getD 0 ⟨0, 0, []⟩))) (heatP h (pullB t a (bs.getD 0 ⟨0, 0, []⟩))) bs t a).foldl sumP (gasP g) = overR bs l h g t a := by
  match bs, hb with
  | b :: bs, _ => rfl
theorem partsR_at {L H : Ar} {bs : List Bod} {t : Int} {a : Ar} {i : Nat} {b : Bod} (hi : bs[i]? = some b) : (partsR L H bs t a).take (2 + i) ++ [pullB t a b] = (partsR L H bs t a).take (2 + (i + 1)) := by
  rw [show 2 + (i + 1) = (2 + i) + 1 by omega, List.take_add_one]
  congr 1
  unfold partsR
  rw [show 2 + i = i + 1 + 1 by omega, List.getElem?_cons_succ, List.getElem?_cons_succ, List.getElem?_map, hi]
  rfl
theorem row2 {W : World} {Z : Nat} {p q : Ar} (hb : Box W Z #[.int .i64 (p.1), .int .i64 (p.2.1), .int .i64 (p.2.2.1), .int .i64 (p.2.2.2), .int .i64 (q.1), .int .i64 (q.2.1), .int .i64 (q.2.2.1), .int .i64 (q.2.2.2)] 30) :
    W.ownsRow Z 30 4 (.slice (some ⟨Z, 0, none⟩) 2 2) 2 [.int .i64 p.1, .int .i64 p.2.1, .int .i64 p.2.2.1, .int .i64 p.2.2.2, .int .i64 q.1, .int .i64 q.2.1, .int .i64 q.2.2.1, .int .i64 q.2.2.2] ∧
      RowOf 4 RAre [p, q] [.int .i64 p.1, .int .i64 p.2.1, .int .i64 p.2.2.1, .int .i64 p.2.2.2, .int .i64 q.1, .int .i64 q.2.1, .int .i64 q.2.2.1, .int .i64 q.2.2.2] :=
  ⟨⟨rfl, .inr ⟨Z, 2, _, rfl, Nat.le_refl _, hb, Nat.le_refl _, by unfold maxLen; omega, rfl, rfl⟩⟩, ((RowOf.nil 4 RAre).snoc (x := p) (vs := [.int .i64 p.1, .int .i64 p.2.1, .int .i64 p.2.2.1, .int .i64 p.2.2.2]) rfl rfl).snoc (x := q) rfl rfl⟩
/-- the state of the loop that gathers the parts -/
def OvS (w : World) (a : Option Addr) (n c : Nat) (home l1 l2 k1 k2 g x0 x1 y0 y1 : Int) (G Z : Nat) (PS : List Ar) (i : Nat) (sv : Value) (wr : World) : Prop :=
  Up w wr ∧ Box wr w.heap.size #[.slice a n c, .int .i64 home] 24 ∧ Box wr (w.heap.size + 1) #[.int .i64 (l1), .int .i64 (l2), .int .i64 (k1), .int .i64 (k2), .int .i64 (g)] 28 ∧ Box wr (w.heap.size + 1 + 1) #[.int .i64 (x0), .int .i64 (x1), .int .i64 (y0), .int .i64 (y1)] 30 ∧ Box wr (w.heap.size + 1 + 1 + 1) #[.int .i64 (0), .int .i64 (0), .int .i64 (0), .int .i64 (0)] 30 ∧ Box wr (G + 1) #[.int .i64 (-g), .int .i64 (g), .int .i64 (-g), .int .i64 (g)] 30 ∧ Z ≤ wr.heap.size ∧ ∃ xs, wr.ownsRow Z 30 4 sv (2 + i) xs ∧ RowOf 4 RAre (PS.take (2 + i)) xs

set_option maxRecDepth 100000 in
set_option maxHeartbeats 4000000 in
theorem g_Over {K : Nat → Prop} {w : World} {a : Option Addr} {n c : Nat} {bs : List Bod} {home : Int} (hl : Bods K w (.slice a n c) bs) (hh : I64 home) (l h : Sp) (g t : Int) (x : Ar) :
    Gives Tryz.prog 23 #[.agg #[.slice a n c, .int .i64 home], .agg #[.int .i64 l.1, .int .i64 l.2, .int .i64 h.1, .int .i64 h.2, .int .i64 g], .int .i64 t, .agg #[.int .i64 x.1, .int .i64 x.2.1, .int .i64 x.2.2.1, .int .i64 x.2.2.2]] w (.tuple #[.agg #[.int .i64 ((overV bs home l h g t x).1).1, .int .i64 ((overV bs home l h g t x).1).2.1, .int .i64 ((overV bs home l h g t x).1).2.2.1, .int .i64 ((overV bs home l h g t x).1).2.2.2], .int .i64 (overV bs home l h g t x).2]) := by
  obtain ⟨x0, x1, y0, y1⟩ := x
  have HA := hide (fun W (hu : Up w W) => g_asked (hl.keeps (hu.keeps K)) hh l h g t x0 x1 y0 y1)
  have KLt := hide (fun W (hu : Up w W) => g_Light (hl.keeps (hu.keeps K)) hh l h g t (x0, x1, y0, y1))
  have KHt := hide (fun W (hu : Up w W) => g_Heat (hl.keeps (hu.keeps K)) hh l h g t (x0, x1, y0, y1))
  unfold overV
  unfold lightV at KLt
  unfold heatV at KHt
  by_cases he : askedE bs home l h g t (x0, x1, y0, y1) = 0
  rotate_left
  · rw [if_neg he]
    have heb : (askedE bs home l h g t (x0, x1, y0, y1) != 0) = true := by simp [he]
    generalize askedE bs home l h g t (x0, x1, y0, y1) = e at *
    clear hl he KLt KHt
    (unfold Gives; go_enter Tryz.func23, Tryz.ntmps23)
    go_wp2_with (go_at_call 42; refine (HA.out _ (by repeat (first | with_reducible exact Up.refl _ | with_reducible apply Up.plus | apply Up.ext | apply Up.alloc | apply Up.drew | (refine Up.setCell ?_ (by simp; try omega) _)))).mono ?_; intro _)
    (refine forgetW (fun WF => Up w WF ∧ Box WF (w.heap.size + 1 + 1 + 1) #[.int .i64 zA.1, .int .i64 zA.2.1, .int .i64 zA.2.2.1, .int .i64 zA.2.2.2] 30) ⟨(by repeat (first | with_reducible exact Up.refl _ | with_reducible apply Up.plus | apply Up.ext | apply Up.alloc | apply Up.drew | (refine Up.setCell ?_ (by simp; try omega) _))), (by repeat (first | exact Box.mk rfl | (refine Box.mk ?_; simp; done) | apply Box.ext | apply Box.drew | apply Box.alloc | apply Box.two1 | (refine Box.other ?_ (by omega) _ _)))⟩ ?_; rintro WF ⟨huF, hbF⟩; have zF0 := hbF.cell 0 rfl; have zF1 := hbF.cell 1 rfl; have zF2 := hbF.cell 2 rfl; have zF3 := hbF.cell 3 rfl; (refine bodyPost_give huF rfl ⟨_, (by simp [results, Tryz.results23, go_sem, zF0, zF1, zF2, zF3]; rfl), ?_⟩); rfl)
  · rw [if_pos he] at KLt KHt ⊢
    rw [over_ref he]
    obtain ⟨h1, hdr, ⟨t0, t1⟩, _⟩ := asked_zero he
    rw [he] at HA
    obtain ⟨wl1, wl2, _⟩ := worldE_zero h1
    have hpos : 0 < bs.length := List.length_pos_iff.2 wl1
    have hg : 0 ≤ g ∧ g ≤ 1000 := by
      unfold driftE at hdr
      split at hdr
      · split at hdr
        · split at hdr
          · rename_i h; simpa [withinB] using h
          · omega
        · contradiction
      · contradiction
    have hn := (Bods.at hl).1
    rw [← partsR_fold l h g t (x0, x1, y0, y1) hpos]
    generalize lightP l (pullB t (x0, x1, y0, y1) (bs.getD 0 ⟨0, 0, []⟩)) = L at *
    generalize heatP h (pullB t (x0, x1, y0, y1) (bs.getD 0 ⟨0, 0, []⟩)) = H at *
    obtain ⟨PS, hPS⟩ : ∃ ps, partsR L H bs t (x0, x1, y0, y1) = ps := ⟨_, rfl⟩
    have hPSl : PS.length = 2 + n := by rw [← hPS, hn]; unfold partsR; simp; omega
    have KP := hide (fun (i : Nat) (hi : i < n) => show ∃ R : Ar, PS.take (2 + i) ++ [R] = PS.take (2 + (i + 1)) ∧ ∀ W, Up w W → Gives Tryz.prog 43 #[.agg #[.slice a n c, .int .i64 home], .int .i64 i, .int .i64 t, .agg #[.int .i64 (x0), .int .i64 (x1), .int .i64 (y0), .int .i64 (y1)]] W (.agg #[.int .i64 R.1, .int .i64 R.2.1, .int .i64 R.2.2.1, .int .i64 R.2.2.2]) from by
      have hib : i < bs.length := by rw [← hn]; exact hi
      refine ⟨pullB t (x0, x1, y0, y1) bs[i], ?_, fun W hu => g_one (hl.keeps (hu.keeps K)) hh h1 (List.getElem?_eq_getElem hib) t0 t1 x0 x1 y0 y1⟩
      rw [← hPS]
      exact partsR_at (List.getElem?_eq_getElem hib))
    have hP2 := hide (show PS.take (2 + 0) = [L, H] by rw [← hPS]; rfl)
    have hn8 : n ≤ 8 := by rw [hn]; exact wl2
    rw [hPS]
    obtain ⟨iv, hvi, hv0, hv1, hv2⟩ := info_parts Tryz.infoarea
    have HI := hide (And.intro hvi (And.intro hv0 (And.intro hv1 hv2)))
    have HPL := hide hPSl
    obtain ⟨l1, l2⟩ := l
    obtain ⟨k1, k2⟩ := h
    dsimp only at HA KLt KHt
    clear hl hh he h1 hdr wl1 wl2 hpos hn hPS hPSl hvi hv0 hv1 hv2
    (unfold Gives; go_enter Tryz.func23, Tryz.ntmps23)
    go_wp2_with fail
    go_at_call 42
    refine (HA.out _ (by repeat (first | with_reducible exact Up.refl _ | with_reducible apply Up.plus | apply Up.ext | apply Up.alloc | apply Up.drew | (refine Up.setCell ?_ (by simp; try omega) _)))).mono ?_
    intro pa
    go_wp2_with fail
    go_at_call 27
    obtain ⟨G, hG⟩ : ∃ T, w.heap.size + 1 + 1 + 1 + 1 + pa.os.size = T := ⟨_, rfl⟩
    rw [hG]
    refine forgetE (fun V => Up w V ∧ Box V w.heap.size #[.slice a n c, .int .i64 home] 24 ∧ Box V (w.heap.size + 1) #[.int .i64 (l1), .int .i64 (l2), .int .i64 (k1), .int .i64 (k2), .int .i64 (g)] 28 ∧ Box V (w.heap.size + 1 + 1) #[.int .i64 (x0), .int .i64 (x1), .int .i64 (y0), .int .i64 (y1)] 30 ∧ Box V (w.heap.size + 1 + 1 + 1) #[.int .i64 (0), .int .i64 (0), .int .i64 (0), .int .i64 (0)] 30 ∧ Box V (G + 1) #[.int .i64 (-g), .int .i64 (g), .int .i64 (-g), .int .i64 (g)] 30) ⟨(by repeat (first | with_reducible exact Up.refl _ | with_reducible apply Up.plus | apply Up.ext | apply Up.alloc | apply Up.drew | (refine Up.setCell ?_ (by simp; try omega) _))), (by repeat (first | exact Box.mk rfl | (refine Box.mk ?_; simp; done) | apply Box.ext | apply Box.drew | apply Box.alloc | apply Box.two1 | (refine Box.other ?_ (by omega) _ _))), (by repeat (first | exact Box.mk rfl | (refine Box.mk ?_; simp; done) | apply Box.ext | apply Box.drew | apply Box.alloc | apply Box.two1 | (refine Box.other ?_ (by omega) _ _))), (by repeat (first | exact Box.mk rfl | (refine Box.mk ?_; simp; done) | apply Box.ext | apply Box.drew | apply Box.alloc | apply Box.two1 | (refine Box.other ?_ (by omega) _ _))), (by repeat (first | exact Box.mk rfl | (refine Box.mk ?_; simp; done) | apply Box.ext | apply Box.drew | apply Box.alloc | apply Box.two1 | (refine Box.other ?_ (by omega) _ _))), by rw [← hG]; exact (by repeat (first | exact Box.mk rfl | (refine Box.mk ?_; simp; done) | apply Box.ext | apply Box.drew | apply Box.alloc | apply Box.two1 | (refine Box.other ?_ (by omega) _ _)))⟩ ?_
    rintro V1 ⟨hu, bw, bd, ba, bz, bg⟩
    have hGl : w.heap.size + 1 + 1 + 1 < G := by omega
    clear hG
    refine (KLt.out _ hu).mono ?_
    intro pb
    have cw0 := bw.cell 0 rfl
    have cw1 := bw.cell 1 rfl
    have lcw := bw.lt
    have cd0 := bd.cell 0 rfl
    have cd1 := bd.cell 1 rfl
    have cd2 := bd.cell 2 rfl
    have cd3 := bd.cell 3 rfl
    have cd4 := bd.cell 4 rfl
    have lcd := bd.lt
    have ca0 := ba.cell 0 rfl
    have ca1 := ba.cell 1 rfl
    have ca2 := ba.cell 2 rfl
    have ca3 := ba.cell 3 rfl
    have lca := ba.lt
    go_wp2_with fail
    go_at_call 29
    obtain ⟨T13, hT13⟩ : ∃ T, V1.heap.size + pb.os.size = T := ⟨_, rfl⟩
    rw [hT13]
    refine forgetE (fun V => Up w V ∧ Box V w.heap.size #[.slice a n c, .int .i64 home] 24 ∧ Box V (w.heap.size + 1) #[.int .i64 (l1), .int .i64 (l2), .int .i64 (k1), .int .i64 (k2), .int .i64 (g)] 28 ∧ Box V (w.heap.size + 1 + 1) #[.int .i64 (x0), .int .i64 (x1), .int .i64 (y0), .int .i64 (y1)] 30 ∧ Box V (w.heap.size + 1 + 1 + 1) #[.int .i64 (0), .int .i64 (0), .int .i64 (0), .int .i64 (0)] 30 ∧ Box V (G + 1) #[.int .i64 (-g), .int .i64 (g), .int .i64 (-g), .int .i64 (g)] 30 ∧ Box V T13 #[.int .i64 L.1, .int .i64 L.2.1, .int .i64 L.2.2.1, .int .i64 L.2.2.2] 30) ⟨(by repeat (first | with_reducible exact hu | with_reducible exact Up.refl _ | with_reducible apply Up.ext | with_reducible apply Up.alloc | with_reducible apply Up.drew | (with_reducible refine Up.setCell ?_ (by simp only; omega) _))), (by repeat (first | with_reducible exact bw | with_reducible apply Box.ext | with_reducible apply Box.alloc | with_reducible apply Box.drew | (with_reducible refine Box.other ?_ (by omega) _ _))), (by repeat (first | with_reducible exact bd | with_reducible apply Box.ext | with_reducible apply Box.alloc | with_reducible apply Box.drew | (with_reducible refine Box.other ?_ (by omega) _ _))), (by repeat (first | with_reducible exact ba | with_reducible apply Box.ext | with_reducible apply Box.alloc | with_reducible apply Box.drew | (with_reducible refine Box.other ?_ (by omega) _ _))), (by repeat (first | with_reducible exact bz | with_reducible apply Box.ext | with_reducible apply Box.alloc | with_reducible apply Box.drew | (with_reducible refine Box.other ?_ (by omega) _ _))), (by repeat (first | with_reducible exact bg | with_reducible apply Box.ext | with_reducible apply Box.alloc | with_reducible apply Box.drew | (with_reducible refine Box.other ?_ (by omega) _ _))), by rw [← hT13]; exact (by repeat (first | exact Box.mk rfl | (refine Box.mk ?_; simp; done) | apply Box.ext | apply Box.drew | apply Box.alloc | apply Box.two1 | (refine Box.other ?_ (by omega) _ _)))⟩ ?_
    rintro V2 ⟨hu', bw', bd', ba', bz', bg', bL⟩
    clear hT13 cw0 cw1 lcw cd0 cd1 cd2 cd3 cd4 lcd ca0 ca1 ca2 ca3 lca hu bw bd ba bz bg
    refine (KHt.out _ hu').mono ?_
    intro pc
    have cL0 := bL.cell 0 rfl
    have cL1 := bL.cell 1 rfl
    have cL2 := bL.cell 2 rfl
    have cL3 := bL.cell 3 rfl
    have lcL := bL.lt
    go_wp2_with fail
    obtain ⟨T15, hT15⟩ : ∃ T, V2.heap.size + pc.os.size = T := ⟨_, rfl⟩
    rw [hT15]
    refine forgetW (fun V => Up w V ∧ Box V w.heap.size #[.slice a n c, .int .i64 home] 24 ∧ Box V (w.heap.size + 1) #[.int .i64 (l1), .int .i64 (l2), .int .i64 (k1), .int .i64 (k2), .int .i64 (g)] 28 ∧ Box V (w.heap.size + 1 + 1) #[.int .i64 (x0), .int .i64 (x1), .int .i64 (y0), .int .i64 (y1)] 30 ∧ Box V (w.heap.size + 1 + 1 + 1) #[.int .i64 (0), .int .i64 (0), .int .i64 (0), .int .i64 (0)] 30 ∧ Box V (G + 1) #[.int .i64 (-g), .int .i64 (g), .int .i64 (-g), .int .i64 (g)] 30 ∧ Box V (T15 + 1) #[.int .i64 (L.1), .int .i64 (L.2.1), .int .i64 (L.2.2.1), .int .i64 (L.2.2.2), .int .i64 (H.1), .int .i64 (H.2.1), .int .i64 (H.2.2.1), .int .i64 (H.2.2.2)] 30) ⟨(by repeat (first | with_reducible exact hu' | with_reducible exact Up.refl _ | with_reducible apply Up.ext | with_reducible apply Up.alloc | with_reducible apply Up.drew | (with_reducible refine Up.setCell ?_ (by simp only; omega) _))), (by repeat (first | with_reducible exact bw' | with_reducible apply Box.ext | with_reducible apply Box.alloc | with_reducible apply Box.drew | (with_reducible refine Box.other ?_ (by omega) _ _))), (by repeat (first | with_reducible exact bd' | with_reducible apply Box.ext | with_reducible apply Box.alloc | with_reducible apply Box.drew | (with_reducible refine Box.other ?_ (by omega) _ _))), (by repeat (first | with_reducible exact ba' | with_reducible apply Box.ext | with_reducible apply Box.alloc | with_reducible apply Box.drew | (with_reducible refine Box.other ?_ (by omega) _ _))), (by repeat (first | with_reducible exact bz' | with_reducible apply Box.ext | with_reducible apply Box.alloc | with_reducible apply Box.drew | (with_reducible refine Box.other ?_ (by omega) _ _))), (by repeat (first | with_reducible exact bg' | with_reducible apply Box.ext | with_reducible apply Box.alloc | with_reducible apply Box.drew | (with_reducible refine Box.other ?_ (by omega) _ _))), by rw [← hT15]; exact (by repeat (first | exact Box.mk rfl | (refine Box.mk ?_; simp; done) | apply Box.ext | apply Box.drew | apply Box.alloc | apply Box.two1 | (refine Box.other ?_ (by omega) _ _)))⟩ ?_
    rintro V3 ⟨hu, bw, bd, ba, bz, bg, bLH⟩
    have hZG : G + 1 < T15 + 1 := by have := bg'.lt; omega
    have hZl := bLH.lt
    obtain ⟨hrow, hrw⟩ := row2 (p := L) (q := H) bLH
    have hS := hide (show OvS w a n c home l1 l2 k1 k2 g x0 x1 y0 y1 G (T15 + 1) PS 0 (.slice (some ⟨T15 + 1, 0, none⟩) 2 2) V3 from ⟨hu, bw, bd, ba, bz, bg, by omega, _, hrow, by rw [hP2.out]; exact hrw⟩)
    clear hT15 cL0 cL1 cL2 cL3 lcL hu bw bd ba bz bg hu' bw' bd' ba' bz' bg' bL bLH hrow hrw HA KLt KHt hP2
    go_loopw [17, 18] (fun s17 s18 wr => ∃ i : Nat, s18 = .int .i64 i ∧ i ≤ n ∧ Hid (OvS w a n c home l1 l2 k1 k2 g x0 x1 y0 y1 G (T15 + 1) PS i s17 wr)) (fun _ s _ => n - (intOf s).toNat)
    case atStart => exact ⟨0, by go_num, by omega, hS⟩
    case round =>
      obtain ⟨i, rfl, hi, hJ⟩ := hrel
      clear hS
      obtain ⟨hu, bw, bd, ba, bz, bg, hZ, xs, ho, hr⟩ := hJ.out
      have cw0 := bw.cell 0 rfl
      have cw1 := bw.cell 1 rfl
      have lcw := bw.lt
      by_cases hlt : i < n
      · have hib : decide ((i : Int) < n) = true := by simp; omega
        have hin : decide (i < n) = true := by simp; omega
        obtain ⟨R, hR, KR⟩ := KP.out i hlt
        have KR1 := hide KR
        have HRn := hide hR
        have ca0 := ba.cell 0 rfl
        have ca1 := ba.cell 1 rfl
        have ca2 := ba.cell 2 rfl
        have ca3 := ba.cell 3 rfl
        have lca := ba.lt
        have HX := hide (And.intro hu (And.intro bw (And.intro bd (And.intro ba (And.intro bz (And.intro bg (And.intro ho hr)))))))
        clear hJ hu bw bd ba bz bg ho hr KR hR
        go_wp2_with fail
        go_at_call 43
        refine (KR1.out _ HX.out.1).mono ?_
        intro pd
        go_wp2_with (at_builtin; with_reducible refine stopA rfl ?_)
        refine hide ?_
        have ho1 := (ownsRow_keeps HX.out.2.2.2.2.2.2.1 (((Up.refl wr).ext pd).keeps (fun _ => True)) (fun _ _ => trivial)).alloc (.cells #[.int .i64 R.1, .int .i64 R.2.1, .int .i64 R.2.2.1, .int .i64 R.2.2.2] 30)
        have hlrow : ∀ b, u17.ownBlock = some b → T15 + 1 ≤ b := fun b e => (HX.out.2.2.2.2.2.2.1.lt b e).1
        have hGb := HX.out.2.2.2.2.2.1.lt
        refine wpList_append_lies _ rfl (.tmp 64) (.tmp 70) 46 rfl (T15 + 1) 30 iv _ 4 32 Tryz.underlying46 HI.out.1 HI.out.2.1 HI.out.2.2.1 HI.out.2.2.2 rfl (by decide) u17 (2 + i) xs rfl ho1 ⟨wr.heap.size + pd.os.size, 0, none⟩ 1 1 [.int .i64 R.1, .int .i64 R.2.1, .int .i64 R.2.2.1, .int .i64 R.2.2.2] rfl rfl
          (World.news_of_block (Box.mk (by simp))) (fun u hu => by simp only [List.mem_cons, List.not_mem_nil, or_false] at hu; rcases hu with rfl | rfl | rfl | rfl <;> rfl) (by decide) (by unfold maxLen; omega) (by omega) (by simp; omega) _ rfl ?_
        intro gr cap w1 hown hgrow hat hlt1
        have hu1 : Up w ((ext wr pd).alloc (.cells #[.int .i64 R.1, .int .i64 R.2.1, .int .i64 R.2.2.1, .int .i64 R.2.2.2] 30)) := (HX.out.1.ext pd).alloc _
        have hN := hide (show OvS w a n c home l1 l2 k1 k2 g x0 x1 y0 y1 G (T15 + 1) PS (i + 1) (.slice (some ⟨gr, 0, none⟩) (2 + i + 1) cap) w1 from
          ⟨.of_below (hu1.below.grown hgrow hu1.below.size (fun k e => by have := hlrow k e; omega)),
            ((HX.out.2.1.ext pd).alloc _).grown hgrow (fun e => by have := hlrow _ e; omega), ((HX.out.2.2.1.ext pd).alloc _).grown hgrow (fun e => by have := hlrow _ e; omega), ((HX.out.2.2.2.1.ext pd).alloc _).grown hgrow (fun e => by have := hlrow _ e; omega),
            ((HX.out.2.2.2.2.1.ext pd).alloc _).grown hgrow (fun e => by have := hlrow _ e; omega), ((HX.out.2.2.2.2.2.1.ext pd).alloc _).grown hgrow (fun e => by have := hlrow _ e; omega), by have := (hown.lt gr rfl).1; omega, _, hown, by rw [← HRn.out]; exact HX.out.2.2.2.2.2.2.2.snoc (x := R) rfl rfl⟩)
        clear hown hgrow hat hlt1 ho1 hu1 hlrow HX cw0 cw1 lcw ca0 ca1 ca2 ca3 lca
        go_wp2
        go_roundw
        case rel => exact ⟨i + 1, by go_num, by omega, hN⟩
        case measure => simp [intOf]; omega
      · have hib : decide ((i : Int) < n) = false := by simp; omega
        have hin : decide (i < n) = false := by simp; omega
        obtain ⟨gr, cap, rfl, hgb, hgl⟩ := ho.form (by omega)
        obtain ⟨m, hm⟩ : ∃ m, 2 + i = m := ⟨_, rfl⟩
        rw [hm] at ho hr
        have hPm : PS.length = m := by have := HPL.out; omega
        rw [List.take_of_length_le (by omega)] at hr
        have hm20 : m ≤ 20 := by omega
        have HR := hide hr
        have HPM := hide hPm
        have hgz := (ho.lt gr rfl).1
        have hF0 := hide (show Up w wr ∧ Box wr (w.heap.size + 1 + 1 + 1) #[.int .i64 (0), .int .i64 (0), .int .i64 (0), .int .i64 (0)] 30 ∧ (∃ O : Ar, (PS.take 0).foldl sumP (gasP g) = O ∧ Box wr (G + 1) #[.int .i64 O.1, .int .i64 O.2.1, .int .i64 O.2.2.1, .int .i64 O.2.2.2] 30) ∧ wr.ownsRow (T15 + 1) 30 4 (.slice (some ⟨gr, 0, none⟩) m cap) m xs from ⟨hu, bz, ⟨gasP g, rfl, bg⟩, ho⟩)
        rw [hm]
        clear hJ hu bw bd ba bz bg ho hr hPm HPL hm
        go_wp2_with fail
        go_loopw [19] (fun s19 w2 => ∃ k : Nat, s19 = .int .i64 k ∧ k ≤ m ∧ Hid (Up w w2 ∧ Box w2 (w.heap.size + 1 + 1 + 1) #[.int .i64 (0), .int .i64 (0), .int .i64 (0), .int .i64 (0)] 30 ∧ (∃ O : Ar, (PS.take k).foldl sumP (gasP g) = O ∧ Box w2 (G + 1) #[.int .i64 O.1, .int .i64 O.2.1, .int .i64 O.2.2.1, .int .i64 O.2.2.2] 30) ∧ w2.ownsRow (T15 + 1) 30 4 (.slice (some ⟨gr, 0, none⟩) m cap) m xs)) (fun s _ => m - (intOf s).toNat)
        case atStart => exact ⟨0, by go_num, by omega, hF0⟩
        case round =>
          obtain ⟨k, rfl, hk, hJ⟩ := hrel
          clear hF0 cw0 cw1 lcw
          obtain ⟨hu, bz, ⟨O, hO, bo⟩, ho⟩ := hJ.out
          obtain ⟨o1, o2, o3, o4⟩ := O
          by_cases hlk : k < m
          · have hkb : decide ((k : Int) < m) = true := by simp; omega
            have hkn : decide (k < m) = true := by simp; omega
            obtain ⟨⟨p1, p2, p3, p4⟩, hp⟩ : ∃ p, PS[k]? = some p := ⟨_, List.getElem?_eq_getElem (by rw [HPM.out]; exact hlk)⟩
            obtain ⟨vs, e1, _, e3⟩ := HR.out.cell hp
            unfold RAre at e1
            subst e1
            have d0 := (ho.cellAt (k * 4) (by omega)).trans (e3 0 _ rfl)
            have d1 := (ho.cellAt (k * 4 + 1) (by omega)).trans (e3 1 _ rfl)
            have d2 := (ho.cellAt (k * 4 + 2) (by omega)).trans (e3 2 _ rfl)
            have d3 := (ho.cellAt (k * 4 + 3) (by omega)).trans (e3 3 _ rfl)
            have lgr := (ho.lt gr rfl).2
            have HE := hide (show (PS.take (k + 1)).foldl sumP (gasP g) = sumP (o1, o2, o3, o4) (p1, p2, p3, p4) by rw [List.take_add_one, hp]; simp only [Option.toList_some, List.foldl_append, List.foldl_cons, List.foldl_nil]; rw [hO])
            have b0 := bo.cell 0 rfl
            have b1 := bo.cell 1 rfl
            have b2 := bo.cell 2 rfl
            have b3 := bo.cell 3 rfl
            have lb := bo.lt
            have fb0 := bo.frozen 0
            have fb1 := bo.frozen 1
            have fb2 := bo.frozen 2
            have fb3 := bo.frozen 3
            have HX := hide (And.intro hu (And.intro bz (And.intro bo ho)))
            clear hJ hu bz hO bo ho e3 hp
            go_wp2_with fail
            ((first | with_reducible refine wp_region_ext_tail2 1 (by kernel_rfl) (by kernel_rfl) ?_ | refine wp_region_ext_tail 1 (by kernel_rfl) (by kernel_rfl) ?_); simp only [List.length_cons, List.length_nil, Nat.reduceAdd, Nat.reduceSub, List.take_succ_cons, List.take_zero, List.drop_succ_cons, List.drop_zero]; (repeat (go_big_quiet_step ((go_at_call 52; with_reducible exact Gives.inRegion (g_sum4 _ _ _ _ _))))); refine wpQuiet_nil ?_; intro _ hw'; obtain ⟨_, hw''⟩ := hw'; subst hw'')
            go_wp2_with fail
            go_roundw
            case rel =>
              refine ⟨k + 1, by go_num, by omega, hide ⟨?_, ?_, ⟨_, HE.out, ?_⟩, ?_⟩⟩
              · exact (by repeat (first | with_reducible exact HX.out.1 | with_reducible exact Up.refl _ | with_reducible apply Up.ext | with_reducible apply Up.alloc | with_reducible apply Up.drew | (with_reducible refine Up.setCell ?_ (by simp only; omega) _)))
              · exact (by repeat (first | with_reducible exact HX.out.2.1 | with_reducible apply Box.ext | with_reducible apply Box.alloc | with_reducible apply Box.drew | (with_reducible refine Box.other ?_ (by omega) _ _)))
              · exact (by (repeat (first | with_reducible apply Box.ext | with_reducible apply Box.alloc | with_reducible apply Box.drew)); exact ((((HX.out.2.2.1.set 0 (.int .i64 (addP (o1, o2) (p1, p2)).1)).set 1 (.int .i64 (addP (o1, o2) (p1, p2)).2)).set 2 (.int .i64 (addP (o3, o4) (p3, p4)).1)).set 3 (.int .i64 (addP (o3, o4) (p3, p4)).2)))
              · refine ownsRow_keeps ?_ (((Up.refl _).ext _).keeps (fun _ => True)) (fun _ _ => trivial)
                have kept : ∀ {V : World} (q : Nat) (v : Value), V.ownsRow (T15 + 1) 30 4 (.slice (some ⟨gr, 0, none⟩) m cap) m xs → (V.setCell ⟨G + 1, q, none⟩ v).ownsRow (T15 + 1) 30 4 (.slice (some ⟨gr, 0, none⟩) m cap) m xs := fun {V} q v h =>
                  h.kept (grown_set (grown_refl _ (some (G + 1))) q v) (.inr (fun e => by have := (h.lt (G + 1) e).1; omega))
                exact kept _ _ (kept _ _ (kept _ _ (kept _ _ HX.out.2.2.2)))
            case measure => simp [intOf]; omega
          · have hkb : decide ((k : Int) < m) = false := by simp; omega
            have hkn : decide (k < m) = false := by simp; omega
            rw [List.take_of_length_le (by rw [HPM.out]; omega)] at hO
            have b0 := bo.cell 0 rfl
            have b1 := bo.cell 1 rfl
            have b2 := bo.cell 2 rfl
            have b3 := bo.cell 3 rfl
            have lb := bo.lt
            have z0 := bz.cell 0 rfl
            have z1 := bz.cell 1 rfl
            have z2 := bz.cell 2 rfl
            have z3 := bz.cell 3 rfl
            have lz := bz.lt
            have fz0 := bz.frozen 0
            have fz1 := bz.frozen 1
            have fz2 := bz.frozen 2
            have fz3 := bz.frozen 3
            have HX := hide (And.intro hu bz)
            have HO := hide hO
            clear hJ hu bz bo ho hO
            go_wp2_with fail
            refine forgetW (fun WF => Up w WF ∧ Box WF (w.heap.size + 1 + 1 + 1) #[.int .i64 (o1), .int .i64 (o2), .int .i64 (o3), .int .i64 (o4)] 30) ⟨(by repeat (first | with_reducible exact HX.out.1 | with_reducible exact Up.refl _ | with_reducible apply Up.ext | with_reducible apply Up.alloc | with_reducible apply Up.drew | (with_reducible refine Up.setCell ?_ (by simp only; omega) _))), (by (repeat (first | with_reducible apply Box.ext | with_reducible apply Box.alloc | with_reducible apply Box.drew)); exact ((((HX.out.2.set 0 (.int .i64 o1)).set 1 (.int .i64 o2)).set 2 (.int .i64 o3)).set 3 (.int .i64 o4)))⟩ ?_
            rintro WF ⟨huF, hbF⟩
            have zF0 := hbF.cell 0 rfl
            have zF1 := hbF.cell 1 rfl
            have zF2 := hbF.cell 2 rfl
            have zF3 := hbF.cell 3 rfl
            (refine bodyPost_give huF rfl ⟨_, (by simp [results, Tryz.results23, go_sem, zF0, zF1, zF2, zF3]; rfl), ?_⟩)
            rw [HO.out]
set_option maxRecDepth 100000 in
theorem g_Pull {K : Nat → Prop} {w : World} {a : Option Addr} {n c : Nat} {bs : List Bod} {home : Int} (hl : Bods K w (.slice a n c) bs) (hh : I64 home) (l h : Sp) (g t : Int) (px py : Int) :
    Gives Tryz.prog 25 #[.agg #[.slice a n c, .int .i64 home], .agg #[.int .i64 l.1, .int .i64 l.2, .int .i64 h.1, .int .i64 h.2, .int .i64 g], .int .i64 t, .agg #[.int .i64 (px), .int .i64 (py)]] w (.tuple #[.agg #[.int .i64 ((overV bs home l h g t (px, px, py, py)).1).1, .int .i64 ((overV bs home l h g t (px, px, py, py)).1).2.1, .int .i64 ((overV bs home l h g t (px, px, py, py)).1).2.2.1, .int .i64 ((overV bs home l h g t (px, px, py, py)).1).2.2.2], .int .i64 (overV bs home l h g t (px, px, py, py)).2]) := by
  have HO := hide (fun W (hu : Up w W) => g_Over (hl.keeps (hu.keeps K)) hh l h g t (px, px, py, py))
  generalize overV bs home l h g t (px, px, py, py) = R at *
  clear hl
  (unfold Gives; go_enter Tryz.func25, Tryz.ntmps25)
  go_wp2
  ((first | with_reducible refine wp_region_ext_tail2 2 (by kernel_rfl) (by kernel_rfl) ?_ | refine wp_region_ext_tail 2 (by kernel_rfl) (by kernel_rfl) ?_); simp only [List.length_cons, List.length_nil, Nat.reduceAdd, Nat.reduceSub, List.take_succ_cons, List.take_zero, List.drop_succ_cons, List.drop_zero]; (repeat (go_big_quiet_step ((first | (go_at_call 54; with_reducible exact Gives.inRegion (g_at _ _ _)) | (go_at_call 23; with_reducible exact Gives.inRegion (HO.out _ (by repeat (first | with_reducible exact Up.refl _ | with_reducible apply Up.plus | apply Up.ext | apply Up.alloc | apply Up.drew | (refine Up.setCell ?_ (by simp; try omega) _))))))))); refine wpQuiet_nil ?_; intro _ hw'; obtain ⟨_, hw''⟩ := hw'; subst hw'')
  go_wp2
  (refine forgetW (fun WF => Up w WF ∧ Box WF (w.heap.size + 1 + 1 + 1) #[.int .i64 R.1.1, .int .i64 R.1.2.1, .int .i64 R.1.2.2.1, .int .i64 R.1.2.2.2] 30) ⟨(by repeat (first | with_reducible exact Up.refl _ | with_reducible apply Up.plus | apply Up.ext | apply Up.alloc | apply Up.drew | (refine Up.setCell ?_ (by simp; try omega) _))), (by repeat (first | exact Box.mk rfl | (refine Box.mk ?_; simp; done) | apply Box.ext | apply Box.drew | apply Box.alloc | apply Box.two1 | (refine Box.other ?_ (by omega) _ _)))⟩ ?_; rintro WF ⟨huF, hbF⟩; have zF0 := hbF.cell 0 rfl; have zF1 := hbF.cell 1 rfl; have zF2 := hbF.cell 2 rfl; have zF3 := hbF.cell 3 rfl; (refine bodyPost_give huF rfl ⟨_, (by simp [results, Tryz.results25, go_sem, zF0, zF1, zF2, zF3]; rfl), ?_⟩); rfl)
end Go.Proofs.YtbcgdhldkanecaaGreat

/- Drifts, spans, areas made of numbers; a sky made of numbers, in a world in which the ring has been asked. Conditions: how often the ring was asked. -/
namespace Go.Proofs.YtbcgdhldkanecaaGreat
set_option linter.unusedVariables false
set_option linter.unusedSimpArgs false
open Go.RowKit

theorem skyof_at {w : World} {sl : Value} (hN : Nums w sl) {B : Nat} (hB : w.heap.size ≤ B) {t : Int} {W W1 : World} (hu : Up w W) (hb : Box W B #[sl, .int .i64 t] 78) {n : Int} (hW : RingAt W B n W1) (hn : n + 60 ≤ 100000) :
    Calls Tryz.prog 10 #[.pointer (some ⟨B, 0, none⟩)] W1 fun e W' => ∃ (v : Value) (s : SkyD), e = .returned v ∧ SkyIn (fun b => W1.heap.size ≤ b) W' v s ∧ SmallSky s ∧ RingAt W B (n + 60) W' ∧ W1.grownBy W' (some B) := by
  obtain ⟨t1, h0, h1, hbW⟩ := hW.box hb
  refine (skyof_any hN hB t1 W1 (hW.up hu hB) hbW h0 (by omega)).mono ?_
  rintro e W' ⟨v, s, t', p', he, h2, h3, rfl, hs, hm⟩
  exact ⟨v, s, he, hs, hm, hW.called hb.lt h2 (by omega) p', grown_up (grown_set (grown_refl _ _) _ _) ((Up.refl _).ext _)⟩

theorem skyof_atx {w : World} {sl : Value} (hN : Nums w sl) {B : Nat} (hB : w.heap.size ≤ B) {t : Int} {W W1 : World} (hu : Up w W) (hb : Box W B #[sl, .int .i64 t] 78) {n : Int} (hW : RingAt W B n W1) (hn : n + 60 ≤ 100000) :
    Calls Tryz.prog 10 #[.pointer (some ⟨B, 0, none⟩)] W1 fun e W' => ∃ (v : Value) (s : SkyD), e = .returned v ∧ SkyX (fun b => W1.heap.size ≤ b) W' v s ∧ SmallSky s ∧ RingAt W B (n + 60) W' ∧ W1.grownBy W' (some B) := by
  obtain ⟨t1, h0, h1, hbW⟩ := hW.box hb
  refine (skyof_anyx hN hB t1 W1 (hW.up hu hB) hbW h0 (by omega)).mono ?_
  rintro e W' ⟨v, s, t', p', he, h2, h3, rfl, hs, hm⟩
  exact ⟨v, s, he, hs, hm, hW.called hb.lt h2 (by omega) p', grown_up (grown_set (grown_refl _ _) _ _) ((Up.refl _).ext _)⟩

/-- at a call: the world at hand under a new name, with what is kept of it -/
theorem forgetC {P : Program} {f : FuncId} {args : Array Value} {w : World} {R : Ending → World → Prop} (S : World → Prop) (hS : S w) (h : ∀ w', S w' → Calls P f args w' R) : Calls P f args w R := h w hS

/-- the world of a sky -/
@[go_sem] theorem field_world (a b c d : Value) (w : World) : (Instr.field 39 (.agg #[a, b, c, d]) 0).run Tryz.prog w = .ok (.agg #[a, b]) w := by kernel_rfl

def RDrift (v : Value) : Prop := ∃ l1 l2 h1 h2 g : Int, (0 ≤ l1 ∧ l1 ≤ l2 ∧ l2 ≤ 1000) ∧ (-1000 ≤ h1 ∧ h1 ≤ h2 ∧ h2 ≤ 1000) ∧ (0 ≤ g ∧ g ≤ 3) ∧ v = .agg #[.int .i64 (l1), .int .i64 (l2), .int .i64 (h1), .int .i64 (h2), .int .i64 (g)]
theorem ring_at_out {W : World} {B : Nat} {n t : Int} {k : Int} {R : Value → Prop} {v : Value} {W' : World} (h : RingAt W B n W') (hn : n ≤ t + k) (hR : R v) : RPost W B t k R (.returned v) W' :=
  let ⟨t', p, h0, h1, hW⟩ := h; ⟨v, t', p, rfl, hR, h0, by omega, hW⟩

set_option maxRecDepth 100000 in
set_option maxHeartbeats 1000000 in
theorem driftof_r {w : World} {sl : Value} (hN : Nums w sl) {B : Nat} (hB : w.heap.size ≤ B) :
    RingGives 20 #[.pointer (some ⟨B, 0, none⟩)] w sl B 6 RDrift := fun t W hu hb t0 t1 => by
  have KN := hide (fun (m : Int) (m0 : 1 ≤ m) (m1 : m ≤ 9223372036854775807) n V (hV : RingAt W B n V) (hn : n + 1 ≤ 100000) => (next_r hN hB m0 m1).at hu hb hB hV hn)
  have HR := hide (RingAt.start (n := t) hb t0 (by omega))
  have lB := hb.lt
  clear hN hB hu hb
  go_enter Tryz.func20, Tryz.ntmps20
  (go_wp2_with fail; go_at_call 11; refine (KN.out (4) (by omega) (by omega) _ _ (HR.out.alloc _) (by omega)).mono ?_; rintro _ V1 ⟨_, rfl, ⟨x, x0, x1, rfl⟩, hR1, hg1⟩)
  have b1 : Box V1 W.heap.size #[.int .i64 (0), .int .i64 (0), .int .i64 (0), .int .i64 (0), .int .i64 (0)] 28 := (Box.mk rfl).grown hg1 (by simp; omega)
  by_cases hx : x = 0
  · subst hx
    have f0 := b1.frozen 0
    have f1 := b1.frozen 1
    have f2 := b1.frozen 2
    have f3 := b1.frozen 3
    have f4 := b1.frozen 4
    have c0 := b1.cell 0 rfl
    have c1 := b1.cell 1 rfl
    have c2 := b1.cell 2 rfl
    have c3 := b1.cell 3 rfl
    have c4 := b1.cell 4 rfl
    have l1 := b1.lt
    have z := (((((b1.set 0 (.int .i64 0)).set 1 (.int .i64 0)).set 2 (.int .i64 0)).set 3 (.int .i64 0)).set 4 (.int .i64 0))
    have z0 := z.cell 0 rfl
    have z1 := z.cell 1 rfl
    have z2 := z.cell 2 rfl
    have z3 := z.cell 3 rfl
    have z4 := z.cell 4 rfl
    have HZ := hide (And.intro z0 (And.intro z1 (And.intro z2 (And.intro z3 z4))))
    clear z z0 z1 z2 z3 z4
    have HX := hide (And.intro hR1 b1)
    clear hR1 hg1 b1
    go_wp2_with fail
    refine bodyPost_ret (v := .agg #[.int .i64 (0), .int .i64 (0), .int .i64 (0), .int .i64 (0), .int .i64 (0)]) (by simp [results, Tryz.results20, go_sem, HZ.out.1, HZ.out.2.1, HZ.out.2.2.1, HZ.out.2.2.2.1, HZ.out.2.2.2.2]) rfl (ring_at_out (n := t + 1) ?_ (by omega) ⟨0, 0, 0, 0, 0, by omega, by omega, by omega, rfl⟩)
    exact (((((HX.out.1.set (by omega) _ _).set (by omega) _ _).set (by omega) _ _).set (by omega) _ _).set (by omega) _ _)
  · have hxb : (x == 0) = false := by simp [hx]
    (go_wp2_with fail; go_at_call 11; refine (KN.out (300) (by omega) (by omega) _ _ hR1 (by omega)).mono ?_; rintro _ V2 ⟨_, rfl, ⟨l, l0, l1, rfl⟩, hR2, hg2⟩)
    (go_wp2_with fail; go_at_call 11; refine (KN.out (600) (by omega) (by omega) _ _ hR2 (by omega)).mono ?_; rintro _ V3 ⟨_, rfl, ⟨h, h0, h1, rfl⟩, hR3, hg3⟩)
    (go_wp2_with fail; go_at_call 11; refine (KN.out (100) (by omega) (by omega) _ _ hR3 (by omega)).mono ?_; rintro _ V4 ⟨_, rfl, ⟨l', l'0, l'1, rfl⟩, hR4, hg4⟩)
    (go_wp2_with fail; go_at_call 11; refine (KN.out (100) (by omega) (by omega) _ _ hR4 (by omega)).mono ?_; rintro _ V5 ⟨_, rfl, ⟨h', h'0, h'1, rfl⟩, hR5, hg5⟩)
    (go_wp2_with fail; go_at_call 11; refine (KN.out (4) (by omega) (by omega) _ _ hR5 (by omega)).mono ?_; rintro _ V6 ⟨_, rfl, ⟨g, g0, g1, rfl⟩, hR6, hg6⟩)
    have b6 := ((((b1.grown hg2 (by simp; omega)).grown hg3 (by simp; omega)).grown hg4 (by simp; omega)).grown hg5 (by simp; omega)).grown hg6 (by simp; omega)
    have f0 := b6.frozen 0
    have f1 := b6.frozen 1
    have f2 := b6.frozen 2
    have f3 := b6.frozen 3
    have f4 := b6.frozen 4
    have c0 := b6.cell 0 rfl
    have c1 := b6.cell 1 rfl
    have c2 := b6.cell 2 rfl
    have c3 := b6.cell 3 rfl
    have c4 := b6.cell 4 rfl
    have l1 := b6.lt
    have z := (((((b6.set 0 (.int .i64 l)).set 1 (.int .i64 (l + l'))).set 2 (.int .i64 (h - 300))).set 3 (.int .i64 (h - 300 + h'))).set 4 (.int .i64 g))
    have z0 := z.cell 0 rfl
    have z1 := z.cell 1 rfl
    have z2 := z.cell 2 rfl
    have z3 := z.cell 3 rfl
    have z4 := z.cell 4 rfl
    have HZ := hide (And.intro z0 (And.intro z1 (And.intro z2 (And.intro z3 z4))))
    clear z z0 z1 z2 z3 z4
    have HX := hide hR6
    clear hR1 hg1 hR2 hg2 hR3 hg3 hR4 hg4 hR5 hg5 hR6 hg6 b1 b6
    go_wp2_with fail
    refine bodyPost_ret (v := .agg #[.int .i64 (l), .int .i64 ((l + l')), .int .i64 ((h - 300)), .int .i64 ((h - 300 + h')), .int .i64 (g)]) (by simp [results, Tryz.results20, go_sem, HZ.out.1, HZ.out.2.1, HZ.out.2.2.1, HZ.out.2.2.2.1, HZ.out.2.2.2.2]) rfl (ring_at_out (n := t + 1 + 1 + 1 + 1 + 1 + 1) ?_ (by omega) ⟨_, _, _, _, _, by omega, by omega, by omega, rfl⟩)
    exact (((((HX.out.set (by omega) _ _).set (by omega) _ _).set (by omega) _ _).set (by omega) _ _).set (by omega) _ _)

def RSub (a b : Int) (v : Value) : Prop := ∃ x y : Int, a ≤ x ∧ x ≤ y ∧ y ≤ b ∧ v = .agg #[.int .i64 x, .int .i64 y]
def RSubA (a b c d : Int) (v : Value) : Prop := ∃ x y u v' : Int, (a ≤ x ∧ x ≤ y ∧ y ≤ b) ∧ (c ≤ u ∧ u ≤ v' ∧ v' ≤ d) ∧ v = .agg #[.int .i64 (x), .int .i64 (y), .int .i64 (u), .int .i64 (v')]
def RSubD (l1 l2 h1 h2 g : Int) (v : Value) : Prop := ∃ a b c d e : Int, (l1 ≤ a ∧ a ≤ b ∧ b ≤ l2) ∧ (h1 ≤ c ∧ c ≤ d ∧ d ≤ h2) ∧ (0 ≤ e ∧ e ≤ g) ∧ v = .agg #[.int .i64 (a), .int .i64 (b), .int .i64 (c), .int .i64 (d), .int .i64 (e)]
end Go.Proofs.YtbcgdhldkanecaaGreat

