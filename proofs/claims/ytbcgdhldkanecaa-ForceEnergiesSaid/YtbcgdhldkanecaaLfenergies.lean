/- ForceEnergies returns true for every input: energies grow with the speed and fall with each mass; what rules pulls the strongest, and has a mass unless it is alone. No conditions. (BEING WRITTEN) -/
import Derived.Test.YtbcgdhldkanecaaPostn
import Derived.Test.YtbcgdhldkanecaaPostb
import Derived.Test.YtbcgdhldkanecaaShown
import Derived.Test.YtbcgdhldkanecaaMade
import Derived.Test.YtbcgdhldkanecaaSumG
import Derived.Test.YtbcgdhldkanecaaPoint
import Derived.Test.YtbcgdhldkanecaaEnerQ
import Derived.Test.YtbcgdhldkanecaaRuler
import Derived.Test.YtbcgdhldkanecaaSize
import Derived.JoinedOf
import Derived.JoinedAt
import Derived.ChangeSame
import Derived.OpenShut
namespace Go.Proofs.Ytbcgdhldkanecaa
open Go.RowKit Go.ChangeShapes Go.WideShapes Go.ChangeAt Go.Joins Go.Shelf

theorem energy_at {K : Nat → Prop} {w : World} {a : Option Addr} {n c : Nat} {bs : List Bod} {home : Int} (hl : Bods K w (.slice a n c) bs) (hh : I64 home) {t x y u v r1 r2 : Int} (e : energyV bs home t x y u v = ((r1, r2), 0)) :
    Gives Try.prog 36 #[.agg #[.slice a n c, .int .i64 home], .int .i64 t, .agg #[.int .i64 (x), .int .i64 (y), .int .i64 (u), .int .i64 (v)]] w (.tuple #[.agg #[.int .i64 (r1), .int .i64 (r2)], .int .i64 0]) := by
  have := fEnergy_any hl hh t x y u v
  rw [e] at this
  exact this
theorem ruler_at {K : Nat → Prop} {w : World} {a : Option Addr} {n c : Nat} {bs : List Bod} {home : Int} (hl : Bods K w (.slice a n c) bs) (hh : I64 home) {t x y rn : Int} {ri : Bool} (e : rulerV bs home t x y = (rn, ri)) :
    Gives Try.prog 37 #[.agg #[.slice a n c, .int .i64 home], .int .i64 t, .agg #[.int .i64 (x), .int .i64 (y)]] w (.tuple #[.int .i64 rn, .bool ri]) := by
  have := fRuler_any hl hh t x y
  rw [e] at this
  exact this
theorem bods_mu {G : Nat} {K : Nat → Prop} {w : World} {n c : Nat} {l : List Bod} (h : BodsX G K w (.slice (some ⟨G, 0, none⟩) n c) l) {k : Nat} (hk : k < n) : w.cell? ⟨G, k * 3, none⟩ = some (.int .i64 (bodD l k).mu) ∧ G < w.heap.size ∧ (∀ j, w.frozen? ⟨G, j, none⟩ = false) ∧ K G := by
  obtain ⟨b, o, p, ta, tn, tc, e1, e2, e3, e4, e5, e6, _⟩ := (Bods.at h.bods).2.2 k hk
  cases e1
  obtain ⟨_, hK, C, hb⟩ := h
  rw [bodD_at e4]
  rw [Nat.zero_add] at e6
  exact ⟨e6, hb.lt, fun j => hb.frozen j, hK⟩
theorem wrap_small {x : Int} (h0 : -9223372036854775808 ≤ x) (h1 : x ≤ 9223372036854775807) : IntKind.i64.wrap x = x := by
  simp [IntKind.wrap, IntKind.bits, IntKind.signed]
  omega
set_option maxRecDepth 100000 in
set_option maxHeartbeats 100000000 in
theorem fener_law (v0 : Value) {w : World} (hN : Nums w v0) (fa wh mo : Int) (b1 : -9223372036854775808 ≤ fa ∧ fa ≤ 9223372036854775807) (b2 : -9223372036854775808 ≤ wh ∧ wh ≤ 9223372036854775807) (b3 : -9223372036854775808 ≤ mo ∧ mo ≤ 9223372036854775807) :
    Gives Try.prog 8 #[v0, .int .i64 fa, .int .i64 wh, .int .i64 mo] w (.bool true) := by
  obtain ⟨sa, sn, sc, rfl⟩ := hN.form
  obtain ⟨B, hBe⟩ : ∃ B, w.heap.size = B := ⟨_, rfl⟩
  obtain ⟨W0, hW0⟩ : ∃ W0, w.alloc (.cells #[.slice sa sn sc, .int .i64 0] 81) = W0 := ⟨_, rfl⟩
  have hu0 : Up w W0 := by rw [← hW0]; exact (by repeat (first | with_reducible exact Up.refl _ | with_reducible apply Up.plus | apply Up.ext | apply Up.alloc | apply Up.drew | (refine Up.setCell ?_ (by simp; try omega) _)))
  have hb0 : Box W0 B #[.slice sa sn sc, .int .i64 0] 81 := by rw [← hW0]; exact Box.mk hBe
  have hBl : w.heap.size ≤ B := by omega
  have hl0 : W0.heap.size = B + 1 := by rw [← hW0, ← hBe]; simp
  have KM1 := hide (fun W => mod64_any fa 100 b1.1 b1.2 (by omega) (by omega) W)
  have KM2 := hide (fun W => mod64_any fa 70 b1.1 b1.2 (by omega) (by omega) W)
  have KM3 := hide (fun (m : Int) (m0 : 0 < m) (m1 : m ≤ 9223372036854775807) W => mod64_any wh m b2.1 b2.2 m0 m1 W)
  have KM4 := hide (fun W => mod64_any mo 10000 b3.1 b3.2 (by omega) (by omega) W)
  have KS := hide (fun n V (hV : RingAt W0 B n V) (hn : n + 60 ≤ 100000) => skyof_atx hN hBl hu0 hb0 hV hn)
  have KP := hide (fun n V (hV : RingAt W0 B n V) (hn : n + 2 ≤ 100000) => (pointof_k hN hBl (n := 2500) (by omega) (by omega)).at hu0 hb0 hBl hV hn)
  have KR := hide (fun n V (hV : RingAt W0 B n V) (hn : n + 1 ≤ 100000) => (range_r hN hBl (lo := 0) (hi := 60) (by omega) (by omega) (by omega)).at hu0 hb0 hBl hV hn)
  have KRU := hide (range_r hN hBl (lo := 0) (hi := 900) (by omega) (by omega) (by omega))
  have KRV := hide (range_r hN hBl (lo := -900) (hi := 0) (by omega) (by omega) (by omega))
  have HB0 := hide hb0
  have HR := hide (RingAt.start (n := 0) hb0 (by omega) (by omega))
  have HU := hide (And.intro hu0 hBl)
  clear hN hb0 hu0 hBl
  (unfold Gives; go_enter Try.func8, Try.ntmps8)
  go_wp2_with fail
  go_at_call 10
  refine (newring_any _ _ _ _).mono ?_
  rintro _ _ ⟨rfl, rfl⟩
  rw [hW0, hBe]
  clear hW0
  go_wp2_with fail
  go_at_call 19
  refine (KS.out _ _ HR.out (by omega)).mono ?_
  rintro _ V1 ⟨_, s, rfl, ⟨G, sc1, vs, vc, rfl, hbod, hhome, _, _⟩, hsm, hR1, hg1⟩
  go_wp2_with fail
  go_at_call 11
  refine (KP.out _ _ hR1 (by omega)).mono ?_
  rintro _ V2 ⟨_, rfl, ⟨px, py, hx0, hx1, hy0, hy1, rfl⟩, hR2, hg2⟩
  go_wp2_with fail
  go_at_call 12
  refine (KR.out _ _ hR2 (by omega)).mono ?_
  rintro _ V4 ⟨_, rfl, ⟨t, t0, t1, rfl⟩, hR4, hg4⟩
  have hk : Keeps (fun b => W0.heap.size ≤ b) V1 V4 := ((Keeps.refl _ V1).turn hg2 (by intro b e; cases e; omega)).turn hg4 (by intro b e; cases e; omega)
  have hbod4 := BodsX.keeps hbod hk
  have hBV : B + 1 ≤ V4.heap.size := by have := hR4.size; omega
  obtain ⟨N, hNN⟩ : ∃ N, V4.heap.size = N := ⟨_, rfl⟩
  clear hR1 hR2 hg1 hg2 hg4 hbod KS KP KR HR hk
  go_wp2_with fail
  go_at_call 28
  have hln := hsm.num
  refine (KM3.out s.bodies.length (by omega) (by omega) _).mono ?_
  intro q1
  obtain ⟨i, hi, hil⟩ : ∃ i : Nat, wh % (s.bodies.length : Int) = (i : Int) ∧ i < s.bodies.length := ⟨(wh % (s.bodies.length : Int)).toNat, by have := Int.emod_nonneg wh (show (s.bodies.length : Int) ≠ 0 by omega); omega, by have := Int.emod_nonneg wh (show (s.bodies.length : Int) ≠ 0 by omega); have := Int.emod_lt_of_pos wh (show (0 : Int) < s.bodies.length by omega); omega⟩
  rw [hi]
  go_wp2_with fail
  refine forgetW (fun W5 => RingAt W0 B 63 W5 ∧ Box W5 N #[.slice (some ⟨G, 0, none⟩) s.bodies.length sc1, .int .i64 s.home] 34 ∧ Box W5 (N + 1) #[.int .i64 (px), .int .i64 (py)] 26 ∧ BodsX G (fun b => W0.heap.size ≤ b ∧ b < N) W5 (.slice (some ⟨G, 0, none⟩) s.bodies.length sc1) s.bodies)
    ⟨((((hR4.alloc _).alloc _).ext _).mono (by omega)), by rw [← hNN]; exact (by repeat (first | exact Box.mk rfl | (refine Box.mk ?_; simp; done) | apply Box.ext | apply Box.drew | apply Box.alloc | apply Box.two1 | (refine Box.other ?_ (by omega) _ _))), by rw [← hNN]; exact (by repeat (first | exact Box.mk rfl | (refine Box.mk ?_; simp; done) | apply Box.ext | apply Box.drew | apply Box.alloc | apply Box.two1 | (refine Box.other ?_ (by omega) _ _))), (hbod4.mono fun b hb hK => ⟨hK, by omega⟩).keeps (Up.keeps (by repeat (first | with_reducible exact Up.refl _ | with_reducible apply Up.plus | apply Up.ext | apply Up.alloc | apply Up.drew | (refine Up.setCell ?_ (by simp; try omega) _))) _)⟩ ?_
  rintro W5 ⟨hR5, bw, bp, hbod5⟩
  clear hR4 hbod4 KM3
  have hBN : B + 1 ≤ N := by omega
  clear hNN hBV
  obtain ⟨tr, tr0, tr1, hbr⟩ := hR5.box HB0.out
  have hu5 := hR5.up HU.out.1 HU.out.2
  have hl5 := bp.lt
  have hS := hide (And.intro hR5 (And.intro bw (And.intro bp (And.intro hbod5 (And.intro hbr hu5)))))
  have cp0 := bp.cell 0 rfl
  have cp1 := bp.cell 1 rfl
  have np : N + 1 ≠ B := by omega
  have HI := hide hi
  clear hR5 bw bp hbod5 hbr hu5 hi
  refine wp_region_float (al := [(9, 14, #[.int .i64 (0), .int .i64 (0), .int .i64 (0), .int .i64 (0)], 69)]) (mv := fun k => k == 5 || k == 7) [10] [0, 1, 2, 3, 4, 6, 5, 7, 8] (by kernel_rfl) (by kernel_rfl) (makes1 ⟨_, rfl, rfl, fun _ => rfl, fun _ _ => by simp [go_sem]⟩) (cls_ring _ B tr) (ringAt_drew hS.out.2.2.2.2.1 tr0 (Int.le_refl _)) (Nat.le_refl _) ?_
  simp only [withOps, List.filterMap_cons, List.filterMap_nil, List.getElem?_toArray, List.getElem?_cons_zero, List.getElem?_cons_succ, Option.map_some]
  (repeat (first | (apply walkF_pure (base := ringBase _ _) rfl rfl rfl (by kernel_rfl); · (rintro ⟨tx, px⟩ K hK; unfold ringBase; dsimp only; go_big_quiet_op; first | exact hK | (apply Exists.intro; refine ⟨fun _ => ?_, ?_⟩; (· (fail)); exact hK))) | (apply walkF_skip rfl; simp only [Act.put, List.setIfInBounds_toArray, List.set_cons_zero, List.set_cons_succ])))
  refine walkF_call _ _ (ring_call KRU.out hS.out.2.2.2.2.2 hS.out.2.2.2.2.1 HU.out.2 (by omega) (by omega)) (fun _ _ => cls_ring _ _ _) rfl rfl (fun _ => by simp [go_sem]) ?_
  rintro _ ⟨u, u0, u1, rfl⟩
  simp only [Act.put, List.setIfInBounds_toArray, List.set_cons_zero, List.set_cons_succ]
  refine walkF_call _ _ (ring_call KRV.out hS.out.2.2.2.2.2 hS.out.2.2.2.2.1 HU.out.2 (by omega) (by omega)) (fun _ _ => cls_ring _ _ _) rfl rfl (fun _ => by simp [go_sem]) ?_
  rintro _ ⟨v, v0, v1, rfl⟩
  simp only [Act.put, List.setIfInBounds_toArray, List.set_cons_zero, List.set_cons_succ]
  (repeat (first | (apply walkF_pure (base := ringBase _ _) rfl rfl rfl (by kernel_rfl); · (rintro ⟨tx, px⟩ K hK; unfold ringBase; dsimp only; go_big_quiet_op; first | exact hK | (apply Exists.intro; refine ⟨fun _ => ?_, ?_⟩; (· (fail)); exact hK))) | (apply walkF_skip rfl; simp only [Act.put, List.setIfInBounds_toArray, List.set_cons_zero, List.set_cons_succ])))
  refine walkF_nil (end1 (fun T8 W6 hg1 hW6 z1 => ?_))
  simp only [Act.put, List.setIfInBounds_toArray, List.set_cons_zero, List.set_cons_succ]
  (try simp only [List.filterMap_cons, List.filterMap_nil, List.getElem?_toArray, List.getElem?_cons_zero, List.getElem?_cons_succ])
  have hW5l : W5.heap.size ≤ T8 := hg1
  have hlN := hS.out.2.2.1.lt
  have zz0 := z1.cell 0 rfl
  have zz1 := z1.cell 1 rfl
  have zz2 := z1.cell 2 rfl
  have zz3 := z1.cell 3 rfl
  have lzz := z1.lt
  have fzz0 := z1.frozen 0
  have fzz1 := z1.frozen 1
  have fzz2 := z1.frozen 2
  have fzz3 := z1.frozen 3
  have bwW := hW6.other hS.out.2.1 (by omega)
  have bpW := hW6.other hS.out.2.2.1 np
  have n1 : N ≠ T8 := by omega
  have n2 : N + 1 ≠ T8 := by omega
  have huW6 := hW6.up hS.out.2.2.2.2.2 HU.out.2
  have hKe : Keeps (fun b => W0.heap.size ≤ b ∧ b < N) W5 W6 := by
    obtain ⟨t', p, _, _, rfl⟩ := hW6
    exact ((Keeps.refl _ W5).set (by omega) _ _).ext p
  have hbW := BodsX.keeps hS.out.2.2.2.1 hKe
  have HZ := hide (And.intro z1 (And.intro bwW (And.intro bpW (And.intro huW6 hbW))))
  have cw0 := bwW.cell 0 rfl
  have cw1 := bwW.cell 1 rfl
  have lcw := bwW.lt
  have hww := hS.out.2.2.2.2.2.below.size
  clear hW6 z1 bwW bpW huW6 hbW hKe cp0 cp1 hS
  go_wp2_with fail
  go_at_call 36
  refine forgetC (fun Y => Up w Y ∧ Box Y N #[.slice (some ⟨G, 0, none⟩) s.bodies.length sc1, .int .i64 s.home] 34 ∧ Box Y (N + 1) #[.int .i64 (px), .int .i64 (py)] 26 ∧ Box Y T8 #[.int .i64 (px), .int .i64 (py), .int .i64 (u), .int .i64 (v)] 69 ∧ BodsX G (fun b => W0.heap.size ≤ b ∧ b < N) Y (.slice (some ⟨G, 0, none⟩) s.bodies.length sc1) s.bodies) ⟨?_, ?_, ?_, ?_, ?_⟩ ?_
  · exact (by repeat (first | with_reducible exact HZ.out.2.2.2.1 | with_reducible apply Up.ext | with_reducible apply Up.alloc | with_reducible apply Up.drew | (with_reducible refine Up.setCell ?_ (by simp only; omega) _)))
  · exact (by repeat (first | with_reducible exact HZ.out.2.1 | with_reducible apply Box.ext | with_reducible apply Box.alloc | with_reducible apply Box.drew | (with_reducible refine Box.other ?_ (by omega) _ _)))
  · exact (by repeat (first | with_reducible exact HZ.out.2.2.1 | with_reducible apply Box.ext | with_reducible apply Box.alloc | with_reducible apply Box.drew | (with_reducible refine Box.other ?_ (by omega) _ _)))
  · exact ((((HZ.out.1.set 0 (.int .i64 px)).set 1 (.int .i64 py)).set 2 (.int .i64 u)).set 3 (.int .i64 v))
  · exact BodsX.keeps HZ.out.2.2.2.2 ((((Keeps.refl _ _).set (by omega) _ _).set (by omega) _ _).set (by omega) _ _ |>.set (by omega) _ _)
  rintro Y1 ⟨hY1, bw, bp, bs8, hbod⟩
  clear HZ zz0 zz1 zz2 zz3 lzz fzz0 fzz1 fzz2 fzz3 cw0 cw1 lcw
  -- the plain values
  obtain ⟨bi, hbi⟩ : ∃ b, s.bodies[i]? = some b := ⟨_, List.getElem?_eq_getElem hil⟩
  have hsb := hsm.bods bi (List.mem_of_getElem? hbi)
  obtain ⟨f1, hf1⟩ : ∃ f, fa % 100 = f := ⟨_, rfl⟩
  obtain ⟨f2, hf2⟩ : ∃ f, fa % 70 = f := ⟨_, rfl⟩
  obtain ⟨f4, hf4⟩ : ∃ f, mo % 10000 = f := ⟨_, rfl⟩
  have g1 : 0 ≤ f1 ∧ f1 ≤ 100 := by omega
  have g2 : 0 ≤ f2 ∧ f2 ≤ 100 := by omega
  have g4 : 0 ≤ f4 ∧ f4 ≤ 10000 := by omega
  rw [hf1] at KM1
  rw [hf2] at KM2
  rw [hf4] at KM4
  clear hf1 hf2 hf4
  obtain ⟨mu, hmu⟩ : ∃ m, bi.mu = m := ⟨_, rfl⟩
  have hm1 := hsb.1
  rw [hmu] at hm1
  obtain ⟨a1, a2, e1, e2, c1, c2, E1, E2, E3, ⟨d1, d2, d3, d4, d5⟩, hw2⟩ := energy_facts hsm.world (t := t) (by omega) (x := px) (y := py) (by omega) (by omega) (u := u) (v := v) (f1 := f1) (f2 := f2) (by omega) (by omega) g1 g2 hbi (m := mu + f4) (by omega) (by omega)
  obtain ⟨rn, ri, R1, R2⟩ := ruler_facts hsm.world hsm.bods (t := t) (by omega) (x := px) (y := py) (by omega) (by omega)
  have KE1 := hide (fun W' (hu : Up Y1 W') => energy_at (hbod.bods.keeps (hu.keeps _)) hhome E1)
  have HB1 := hide (And.intro hY1 (And.intro bw (And.intro bp (And.intro bs8 hbod))))
  have HE := hide (And.intro E2 (And.intro E3 (And.intro R1 (And.intro R2 (And.intro hw2 (And.intro hbi (And.intro hmu (And.intro hsm hhome))))))))
  clear E1 E2 E3 R1 R2 hw2 hbi hmu hsm hhome hsb hbod
  have cs0 := bs8.cell 0 rfl
  have cs1 := bs8.cell 1 rfl
  have cs2 := bs8.cell 2 rfl
  have cs3 := bs8.cell 3 rfl
  have lcs := bs8.lt
  have fcs0 := bs8.frozen 0
  have fcs1 := bs8.frozen 1
  have fcs2 := bs8.frozen 2
  have fcs3 := bs8.frozen 3
  clear hY1 bw bp bs8
  refine (KE1.out _ (Up.refl _)).mono ?_
  intro p1
  go_wp2_with fail
  obtain ⟨A1, hA1⟩ : ∃ T, Y1.heap.size + p1.os.size = T := ⟨_, rfl⟩
  rw [hA1]
  refine forgetW (fun Y => Up w Y ∧ Box Y N #[.slice (some ⟨G, 0, none⟩) s.bodies.length sc1, .int .i64 s.home] 34 ∧ Box Y (N + 1) #[.int .i64 (px), .int .i64 (py)] 26 ∧ Box Y T8 #[.int .i64 (px), .int .i64 (py), .int .i64 (u), .int .i64 (v)] 69 ∧ Box Y A1 #[.int .i64 (a1), .int .i64 (a2)] 36 ∧ BodsX G (fun b => W0.heap.size ≤ b ∧ b < N) Y (.slice (some ⟨G, 0, none⟩) s.bodies.length sc1) s.bodies) ⟨?_, ?_, ?_, ?_, ?_, ?_⟩ ?_
  · exact (by repeat (first | with_reducible exact HB1.out.1 | with_reducible apply Up.ext | with_reducible apply Up.alloc | with_reducible apply Up.drew | (with_reducible refine Up.setCell ?_ (by simp only; omega) _)))
  · exact (by repeat (first | with_reducible exact HB1.out.2.1 | with_reducible apply Box.ext | with_reducible apply Box.alloc | with_reducible apply Box.drew | (with_reducible refine Box.other ?_ (by omega) _ _)))
  · exact (by repeat (first | with_reducible exact HB1.out.2.2.1 | with_reducible apply Box.ext | with_reducible apply Box.alloc | with_reducible apply Box.drew | (with_reducible refine Box.other ?_ (by omega) _ _)))
  · exact (by repeat (first | with_reducible exact HB1.out.2.2.2.1 | with_reducible apply Box.ext | with_reducible apply Box.alloc | with_reducible apply Box.drew | (with_reducible refine Box.other ?_ (by omega) _ _)))
  · rw [← hA1]; exact (by repeat (first | exact Box.mk rfl | (refine Box.mk ?_; simp; done) | apply Box.ext | apply Box.alloc))
  · exact BodsX.keeps HB1.out.2.2.2.2 (Up.keeps (by repeat (first | with_reducible exact Up.refl _ | with_reducible apply Up.plus | apply Up.ext | apply Up.alloc | apply Up.drew | (refine Up.setCell ?_ (by simp; try omega) _))) _)
  rintro Y2 ⟨hY2, bw, bp, bs8, ba1, hbod⟩
  have hA1l : T8 < A1 := by have := HB1.out.2.2.2.1.lt; omega
  clear HB1 KE1 hA1 cs0 cs1 cs2 cs3 lcs fcs0 fcs1 fcs2 fcs3
  have cs0 := bs8.cell 0 rfl
  have cs1 := bs8.cell 1 rfl
  have cs2 := bs8.cell 2 rfl
  have cs3 := bs8.cell 3 rfl
  have lcs := bs8.lt
  have fcs0 := bs8.frozen 0
  have fcs1 := bs8.frozen 1
  have fcs2 := bs8.frozen 2
  have fcs3 := bs8.frozen 3
  have HB2 := hide (And.intro hY2 (And.intro bw (And.intro bp (And.intro bs8 (And.intro ba1 hbod)))))
  clear hY2 bw bp bs8 ba1 hbod
  refine wp_region_floatz (al := []) (mv := fun _ => false) 9 [11, 12, 13] [0, 1, 2, 3, 4, 5, 6, 7, 8, 9, 10] (by kernel_rfl) (by kernel_rfl) rfl (fun _ => rfl) (fun _ _ _ _ h => h) makes0 (cls_ext _) (by first | exact drew_in2 _ _ | exact drew_in _) (Nat.le_refl _) ?_
  simp only [withOps, List.filterMap_cons, List.filterMap_nil, List.getElem?_toArray, List.getElem?_cons_zero, List.getElem?_cons_succ, Option.map_some]
  (repeat (first | (apply walkF_pure (base := fun p : Ext => ext _ p) rfl rfl rfl (by kernel_rfl); · (intro px K hK; go_big_quiet_op; first | exact hK | (apply Exists.intro; refine ⟨fun _ => ?_, ?_⟩; (· ((first | (go_at_call 28; with_reducible exact Gives.inFloat (KM1.out _)) | (go_at_call 28; with_reducible exact Gives.inFloat (KM2.out _))))); exact hK))) | (apply walkF_skip rfl; simp only [Act.put, List.setIfInBounds_toArray, List.set_cons_zero, List.set_cons_succ])))
  refine walkF_lazy (.int .i64 (v - f2)) rfl rfl (fun _ => by simp [go_sem]; exact wrap_small (by omega) (by omega)) ?_
  simp only [Act.put, List.setIfInBounds_toArray, List.set_cons_zero, List.set_cons_succ]
  (repeat (first | (apply walkF_pure (base := fun p : Ext => ext _ p) rfl rfl rfl (by kernel_rfl); · (intro px K hK; go_big_quiet_op; first | exact hK | (apply Exists.intro; refine ⟨fun _ => ?_, ?_⟩; (· (fail)); exact hK))) | (apply walkF_skip rfl; simp only [Act.put, List.setIfInBounds_toArray, List.set_cons_zero, List.set_cons_succ])))
  refine walkF_nil (end0 (fun U hU => ?_))
  (try simp only [List.filterMap_cons, List.filterMap_nil, List.getElem?_toArray, List.getElem?_cons_zero, List.getElem?_cons_succ])
  have hUu : Up Y2 U := hU
  have bs8 := HB2.out.2.2.2.1.up hUu
  clear cs0 cs1 cs2 cs3 lcs fcs0 fcs1 fcs2 fcs3
  have cs0 := bs8.cell 0 rfl
  have cs1 := bs8.cell 1 rfl
  have cs2 := bs8.cell 2 rfl
  have cs3 := bs8.cell 3 rfl
  have lcs := bs8.lt
  have fcs0 := bs8.frozen 0
  have fcs1 := bs8.frozen 1
  have fcs2 := bs8.frozen 2
  have fcs3 := bs8.frozen 3
  have bwU := HB2.out.2.1.up hUu
  have cw0 := bwU.cell 0 rfl
  have cw1 := bwU.cell 1 rfl
  have lcw := bwU.lt
  have hYU := HB2.out.1.trans hUu
  have hlT : w.heap.size ≤ T8 := by omega
  have HB3 := hide (And.intro hYU (And.intro bwU (And.intro (HB2.out.2.2.1.up hUu) (And.intro bs8 (And.intro (HB2.out.2.2.2.2.1.up hUu) (BodsX.keeps HB2.out.2.2.2.2.2 (hUu.keeps _)))))))
  clear bs8 bwU hUu hU hYU HB2
  go_wp2_with fail
  go_at_call 36
  refine forgetC (fun Y => Up w Y ∧ Box Y N #[.slice (some ⟨G, 0, none⟩) s.bodies.length sc1, .int .i64 s.home] 34 ∧ Box Y (N + 1) #[.int .i64 (px), .int .i64 (py)] 26 ∧ Box Y T8 #[.int .i64 (px), .int .i64 (py), .int .i64 ((u + f1)), .int .i64 ((v - f2))] 69 ∧ Box Y A1 #[.int .i64 (a1), .int .i64 (a2)] 36 ∧ BodsX G (fun b => W0.heap.size ≤ b ∧ b < N) Y (.slice (some ⟨G, 0, none⟩) s.bodies.length sc1) s.bodies) ⟨?_, ?_, ?_, ?_, ?_, ?_⟩ ?_
  · exact (by repeat (first | with_reducible exact HB3.out.1 | with_reducible apply Up.ext | with_reducible apply Up.alloc | with_reducible apply Up.drew | (with_reducible refine Up.setCell ?_ (by simp only; omega) _)))
  · exact (by repeat (first | with_reducible exact HB3.out.2.1 | with_reducible apply Box.ext | with_reducible apply Box.alloc | with_reducible apply Box.drew | (with_reducible refine Box.other ?_ (by omega) _ _)))
  · exact (by repeat (first | with_reducible exact HB3.out.2.2.1 | with_reducible apply Box.ext | with_reducible apply Box.alloc | with_reducible apply Box.drew | (with_reducible refine Box.other ?_ (by omega) _ _)))
  · exact ((HB3.out.2.2.2.1.set 2 (.int .i64 (u + f1))).set 3 (.int .i64 (v - f2)))
  · exact (by repeat (first | with_reducible exact HB3.out.2.2.2.2.1 | with_reducible apply Box.ext | with_reducible apply Box.alloc | with_reducible apply Box.drew | (with_reducible refine Box.other ?_ (by omega) _ _)))
  · exact BodsX.keeps HB3.out.2.2.2.2.2 (((Keeps.refl _ _).set (by omega) _ _).set (by omega) _ _)
  rintro Y3 ⟨hY3, bw, bp, bs8, ba1, hbod⟩
  clear HB3 cs0 cs1 cs2 cs3 lcs fcs0 fcs1 fcs2 fcs3 cw0 cw1 lcw
  have KE2 := hide (fun W' (hu : Up Y3 W') => energy_at (hbod.bods.keeps (hu.keeps _)) HE.out.2.2.2.2.2.2.2.2 HE.out.1)
  have KRu := hide (fun W' (hu : Up Y3 W') => ruler_at (hbod.bods.keeps (hu.keeps _)) HE.out.2.2.2.2.2.2.2.2 HE.out.2.2.1)
  have cw0 := bw.cell 0 rfl
  have cw1 := bw.cell 1 rfl
  have lcw := bw.lt
  have cp0 := bp.cell 0 rfl
  have cp1 := bp.cell 1 rfl
  have lcp := bp.lt
  have ca0 := ba1.cell 0 rfl
  have ca1 := ba1.cell 1 rfl
  have lca := ba1.lt
  have q1b : decide (a2 < a1) = false := by simp; omega
  have q2b : decide (e1 < a1) = false := by simp; omega
  have q3b : decide (e2 < a2) = false := by simp; omega
  have HB3 := hide (And.intro hY3 (And.intro bw (And.intro bp (And.intro bs8 (And.intro ba1 hbod)))))
  clear hY3 bw bp bs8 ba1 hbod
  refine (KE2.out _ (Up.refl _)).mono ?_
  intro p2
  go_wp2_with fail
  go_at_call 37
  obtain ⟨A2, hA2⟩ : ∃ T, Y3.heap.size + p2.os.size = T := ⟨_, rfl⟩
  rw [hA2]
  refine forgetC (fun Y => Up w Y ∧ Box Y N #[.slice (some ⟨G, 0, none⟩) s.bodies.length sc1, .int .i64 s.home] 34 ∧ Box Y (N + 1) #[.int .i64 (px), .int .i64 (py)] 26 ∧ Box Y T8 #[.int .i64 (px), .int .i64 (py), .int .i64 ((u + f1)), .int .i64 ((v - f2))] 69 ∧ Box Y A2 #[.int .i64 (e1), .int .i64 (e2)] 36 ∧ Up Y3 Y ∧ BodsX G (fun b => W0.heap.size ≤ b ∧ b < N) Y (.slice (some ⟨G, 0, none⟩) s.bodies.length sc1) s.bodies) ⟨?_, ?_, ?_, ?_, ?_, ?_, ?_⟩ ?_
  · exact (by repeat (first | with_reducible exact HB3.out.1 | with_reducible apply Up.ext | with_reducible apply Up.alloc | with_reducible apply Up.drew | (with_reducible refine Up.setCell ?_ (by simp only; omega) _)))
  · exact (by repeat (first | with_reducible exact HB3.out.2.1 | with_reducible apply Box.ext | with_reducible apply Box.alloc | with_reducible apply Box.drew | (with_reducible refine Box.other ?_ (by omega) _ _)))
  · exact (by repeat (first | with_reducible exact HB3.out.2.2.1 | with_reducible apply Box.ext | with_reducible apply Box.alloc | with_reducible apply Box.drew | (with_reducible refine Box.other ?_ (by omega) _ _)))
  · exact (by repeat (first | with_reducible exact HB3.out.2.2.2.1 | with_reducible apply Box.ext | with_reducible apply Box.alloc | with_reducible apply Box.drew | (with_reducible refine Box.other ?_ (by omega) _ _)))
  · rw [← hA2]; exact (by repeat (first | exact Box.mk rfl | (refine Box.mk ?_; simp; done) | apply Box.ext | apply Box.alloc))
  · exact (by repeat (first | with_reducible exact Up.refl _ | with_reducible apply Up.plus | apply Up.ext | apply Up.alloc | apply Up.drew | (refine Up.setCell ?_ (by simp; try omega) _)))
  · exact BodsX.keeps HB3.out.2.2.2.2.2 (Up.keeps (by repeat (first | with_reducible exact Up.refl _ | with_reducible apply Up.plus | apply Up.ext | apply Up.alloc | apply Up.drew | (refine Up.setCell ?_ (by simp; try omega) _))) _)
  rintro Y4 ⟨hY4, bw, bp, bs8, ba2, hY34, hbod⟩
  have hA2l : T8 < A2 := by have := HB3.out.2.2.2.1.lt; omega
  clear HB3 KE2 hA2 cw0 cw1 lcw cp0 cp1 lcp ca0 ca1 lca q1b q2b q3b
  refine (KRu.out _ hY34).mono ?_
  intro p3
  clear KRu hY34
  have cw0 := bw.cell 0 rfl
  have cw1 := bw.cell 1 rfl
  have lcw := bw.lt
  have HB4 := hide (And.intro hY4 (And.intro bw (And.intro bp (And.intro bs8 (And.intro ba2 hbod)))))
  clear hY4 bw bp bs8 ba2 hbod
  cases ri
  · go_wp2_with fail
    go_loopw [21] (fun s21 wr => s21 = .int .i64 0 ∧ Hid (Up Y4 wr)) (fun _ _ => 0)
    case atStart => exact ⟨rfl, hide (by repeat (first | with_reducible exact Up.refl _ | with_reducible apply Up.plus | apply Up.ext | apply Up.alloc | apply Up.drew | (refine Up.setCell ?_ (by simp; try omega) _)))⟩
    case round =>
      obtain ⟨rfl, hu⟩ := hrel
      have bwr := HB4.out.2.1.up hu.out
      have cw0 := bwr.cell 0 rfl
      have cw1 := bwr.cell 1 rfl
      have lcw := bwr.lt
      clear bwr
      have hbw := BodsX.keeps HB4.out.2.2.2.2.2 (hu.out.keeps _)
      obtain ⟨cmu, lG, fG, hGK⟩ := bods_mu hbw hil
      rw [bodD_at HE.out.2.2.2.2.2.1, HE.out.2.2.2.2.2.2.1] at cmu
      have fG0 := fG (i * 3)
      have hib : decide (i < s.bodies.length) = true := by simp; omega
      clear fG hbw
      go_wp2_with fail
      refine forgetW (fun Y => Up Y4 Y) (by repeat (first | with_reducible exact hu.out | with_reducible exact Up.refl _ | apply Up.ext | apply Up.alloc | apply Up.drew | (refine Up.setCell ?_ (by simp [World.setCell]; try omega) _))) ?_
      rintro Z1 hz
      replace hz := hide hz
      clear cw0 cw1 lcw cmu lG fG0 hu
      have bwr := HB4.out.2.1.up hz.out
      have cw0 := bwr.cell 0 rfl
      have cw1 := bwr.cell 1 rfl
      have lcw := bwr.lt
      clear bwr
      have hbw := BodsX.keeps HB4.out.2.2.2.2.2 (hz.out.keeps _)
      obtain ⟨cmu, lG, fG, _⟩ := bods_mu hbw hil
      rw [bodD_at HE.out.2.2.2.2.2.1, HE.out.2.2.2.2.2.2.1] at cmu
      have fG0 := fG (i * 3)
      clear fG hbw
      refine wp_region_float (al := []) (mv := fun _ => false) [11] [0, 1, 2, 3, 4, 5, 6, 7, 8, 9, 10] (by kernel_rfl) (by kernel_rfl) makes0 (cls_ext _) (by first | exact drew_in2 _ _ | exact drew_in _) (Nat.le_refl _) ?_
      simp only [withOps, List.filterMap_cons, List.filterMap_nil, List.getElem?_toArray, List.getElem?_cons_zero, List.getElem?_cons_succ, Option.map_some]
      (repeat (first | (apply walkF_pure (base := fun p : Ext => ext _ p) rfl rfl rfl (by kernel_rfl); · (intro px K hK; go_big_quiet_op; first | exact hK | (apply Exists.intro; refine ⟨fun _ => ?_, ?_⟩; (· ((go_at_call 28; with_reducible exact Gives.inFloat (KM4.out _)))); exact hK))) | (apply walkF_skip rfl; simp only [Act.put, List.setIfInBounds_toArray, List.set_cons_zero, List.set_cons_succ])))
      refine walkF_nil (end0 (fun U hU => ?_))
      (try simp only [List.filterMap_cons, List.filterMap_nil, List.getElem?_toArray, List.getElem?_cons_zero, List.getElem?_cons_succ])
      have hYU : Up Y4 U := hz.out.trans hU
      clear cw0 cw1 lcw cmu lG fG0
      have bwU := HB4.out.2.1.up hYU
      have cw0 := bwU.cell 0 rfl
      have cw1 := bwU.cell 1 rfl
      have lcw := bwU.lt
      have bsU := HB4.out.2.2.2.1.up hYU
      have cs0 := bsU.cell 0 rfl
      have cs1 := bsU.cell 1 rfl
      have cs2 := bsU.cell 2 rfl
      have cs3 := bsU.cell 3 rfl
      have lcs := bsU.lt
      have hbw := BodsX.keeps HB4.out.2.2.2.2.2 (hYU.keeps _)
      obtain ⟨cmu, lG, fG, _⟩ := bods_mu hbw hil
      have fG0 := fG (i * 3)
      have nGN : N ≠ G := by omega
      have nGT : T8 ≠ G := by omega
      have nGA : A2 ≠ G := by omega
      have hwG : w.heap.size ≤ G := by have := HU.out.1.below.size; omega
      have HT := hide (And.intro (HB4.out.1.trans hYU) (And.intro bwU (And.intro bsU (And.intro (HB4.out.2.2.2.2.1.up hYU) hbw))))
      clear bwU bsU fG hbw hYU hU
      go_wp2_with fail
      go_at_call 36
      refine forgetC (fun Y => Up w Y ∧ Box Y N #[.slice (some ⟨G, 0, none⟩) s.bodies.length sc1, .int .i64 s.home] 34 ∧ Box Y A2 #[.int .i64 (e1), .int .i64 (e2)] 36 ∧ BodsX G (fun b => W0.heap.size ≤ b ∧ b < N) Y (.slice (some ⟨G, 0, none⟩) s.bodies.length sc1) (s.bodies.set i { bi with mu := mu + f4 })) ⟨?_, ?_, ?_, ?_⟩ ?_
      · exact HT.out.1.setCell hwG _
      · exact HT.out.2.1.other nGN _ _
      · exact HT.out.2.2.2.1.other nGA _ _
      · exact BodsX.mu HT.out.2.2.2.2 HE.out.2.2.2.2.2.1 ⟨by omega, by omega⟩
      rintro Y5 ⟨hY5, bw, ba2, hbod⟩
      clear HT cw0 cw1 lcw cs0 cs1 cs2 cs3 lcs cmu lG fG0
      have KE3 := hide (fun W' (hu : Up Y5 W') => energy_at (hbod.bods.keeps (hu.keeps _)) HE.out.2.2.2.2.2.2.2.2 HE.out.2.1)
      have KCW := hide (fun W' (hu : Up Y5 W') => show Gives Try.prog 39 #[.agg #[.slice (some ⟨G, 0, none⟩) s.bodies.length sc1, .int .i64 s.home]] W' (.int .i64 0) by
        have := skworld_any (hbod.bods.keeps (hu.keeps _)) HE.out.2.2.2.2.2.2.2.2
        rw [HE.out.2.2.2.2.1] at this
        exact this)
      have cw0 := bw.cell 0 rfl
      have cw1 := bw.cell 1 rfl
      have lcw := bw.lt
      have ca0 := ba2.cell 0 rfl
      have ca1 := ba2.cell 1 rfl
      have lca := ba2.lt
      have q4b : decide (c1 ≤ e1) = true := by simp; omega
      have q5b : decide (c2 ≤ e2) = true := by simp; omega
      have HY := hide hY5
      clear hY5 bw ba2 hbod
      refine (KE3.out _ (Up.refl _)).mono ?_
      intro p9
      go_wp2_with (first | (go_at_call 39; (with_reducible refine (KCW.out _ (by repeat (first | with_reducible exact Up.refl _ | with_reducible apply Up.plus | apply Up.ext | apply Up.alloc | apply Up.drew | (refine Up.setCell ?_ (by simp; try omega) _)))).mono ?_); intro _) | (go_at_call 18; (with_reducible refine (awake_any _).mono ?_); intro _))
      go_ret
      exact ⟨rfl, (by repeat (first | with_reducible exact HY.out | with_reducible exact Up.refl _ | apply Up.ext | apply Up.alloc | apply Up.drew | (refine Up.setCell ?_ (by simp [World.setCell]; try omega) _)))⟩
  · obtain ⟨kk, rfl, hkk, hm0, hbest⟩ := HE.out.2.2.2.1 rfl
    obtain ⟨cmk, lGk, fGk, hGK0⟩ := bods_mu HB4.out.2.2.2.2.2 hkk
    obtain ⟨mk, hmk⟩ : ∃ m, (bodD s.bodies kk).mu = m := ⟨_, rfl⟩
    rw [hmk] at cmk hm0
    clear fGk hmk
    have k0b : decide ((kk : Int) < 0) = false := by simp
    have k1b : decide ((s.bodies.length : Int) ≤ kk) = false := by simp; omega
    have k1n : decide (s.bodies.length ≤ kk) = false := by simp; omega
    have k2b : decide (kk < s.bodies.length) = true := by simp; omega
    have KO := hide (fun (j : Nat) (hj : j < s.bodies.length) W' (hu : Up Y4 W') => one_at (HB4.out.2.2.2.2.2.bods.keeps (hu.keeps _)) HE.out.2.2.2.2.2.2.2.2 (one_small HE.out.2.2.2.2.2.2.2.1 (t := t) (a := (px, px, py, py)) (by omega) (small_area ⟨hx0, hx1⟩ ⟨hy0, hy1⟩) hj))
    have HORD := hide (fun (j : Nat) (hj : j < s.bodies.length) => show OrdA 1048576 (pullB t (px, px, py, py) (bodD s.bodies j)) from pullB_ord (HE.out.2.2.2.2.2.2.2.1.bods _ (by unfold bodD; rw [List.getD_eq_getElem?_getD, List.getElem?_eq_getElem hj]; exact List.getElem_mem hj)) (small_area ⟨hx0, hx1⟩ ⟨hy0, hy1⟩))
    have HBEST := hide hbest
    clear hbest
    obtain ⟨PN, hPN⟩ : ∃ p, pullB t (px, px, py, py) (bodD s.bodies kk) = p := ⟨_, rfl⟩
    have KN := hide (KO.out kk hkk)
    rw [show pullB t (px, px, py, py) (s.bodies.getD kk ⟨0, 0, []⟩) = PN from hPN] at KN
    have hoN := HORD.out kk hkk
    rw [hPN] at HBEST hoN
    obtain ⟨sN, hsN⟩ : ∃ x, (sizeP PN).1 = x := ⟨_, rfl⟩
    have KSN := hide (fun W => show Gives Try.prog 38 #[.agg #[.int .i64 PN.1, .int .i64 PN.2.1, .int .i64 PN.2.2.1, .int .i64 PN.2.2.2], .bool false] W (.int .i64 sN) by
      have := fsize_any hoN false W
      rw [if_neg (by decide), hsN] at this
      exact this)
    rw [hsN] at HBEST
    clear hPN hoN hsN
    by_cases hz : mk = 0
    · have hzb : (mk == 0) = true := by simp [hz]
      have hl1 : decide ((1 : Int) < s.bodies.length) = false := by have := hm0 hz; simp; omega
      clear hm0 hz
      go_wp2_with fail
      go_loopw [21] (fun s21 wr => ∃ k : Nat, s21 = .int .i64 k ∧ k ≤ s.bodies.length ∧ Hid (Up Y4 wr)) (fun q _ => s.bodies.length - (intOf q).toNat)
      case atStart => exact ⟨0, by go_num, by omega, hide (by repeat (first | with_reducible exact Up.refl _ | with_reducible apply Up.plus | apply Up.ext | apply Up.alloc | apply Up.drew | (refine Up.setCell ?_ (by simp; try omega) _)))⟩
      case round =>
        obtain ⟨k, rfl, hk, hw⟩ := hrel
        clear cmk lGk cw0 cw1 lcw
        by_cases hlt : k < s.bodies.length
        · have hkb : decide ((k : Int) < s.bodies.length) = true := by simp; omega
          obtain ⟨PK, hPK⟩ : ∃ p, pullB t (px, px, py, py) (bodD s.bodies k) = p := ⟨_, rfl⟩
          have KK := hide (KO.out k hlt)
          rw [show pullB t (px, px, py, py) (s.bodies.getD k ⟨0, 0, []⟩) = PK from hPK] at KK
          have hoK := HORD.out k hlt
          have hsK0 := HBEST.out k hlt
          rw [hPK] at hoK hsK0
          obtain ⟨sK, hsK⟩ : ∃ x, (sizeP PK).2 = x := ⟨_, rfl⟩
          rw [hsK] at hsK0
          have KSK := hide (fun W => show Gives Try.prog 38 #[.agg #[.int .i64 PK.1, .int .i64 PK.2.1, .int .i64 PK.2.2.1, .int .i64 PK.2.2.2], .bool true] W (.int .i64 sK) by
            have := fsize_any hoK true W
            rw [if_pos rfl, hsK] at this
            exact this)
          clear hPK hoK hsK
          have bwr := HB4.out.2.1.up hw.out
          have cw0 := bwr.cell 0 rfl
          have cw1 := bwr.cell 1 rfl
          have lcw := bwr.lt
          have bpr := HB4.out.2.2.1.up hw.out
          have cp0 := bpr.cell 0 rfl
          have cp1 := bpr.cell 1 rfl
          have lcp := bpr.lt
          clear bwr bpr
          have hYw := hw.out.below.size
          go_wp2_with fail
          refine wp_region_floatz (al := [(12, 22, #[.int .i64 (0), .int .i64 (0), .int .i64 (0), .int .i64 (0)], 38)]) (mv := fun _ => false) 11 [13, 14] [0, 1, 2, 3, 4, 5, 6, 7, 8, 9, 10, 11] (by kernel_rfl) (by kernel_rfl) rfl (fun _ => rfl) (fun _ _ _ _ h => h) (makes1 ⟨_, rfl, rfl, fun _ => rfl, fun _ _ => by simp [go_sem]⟩) (cls_ext _) (by first | exact drew_in2 _ _ | exact drew_in _) (Nat.le_refl _) ?_
          simp only [withOps, List.filterMap_cons, List.filterMap_nil, List.getElem?_toArray, List.getElem?_cons_zero, List.getElem?_cons_succ, Option.map_some]
          (repeat (first | (apply walkF_pure (base := fun p : Ext => ext _ p) rfl rfl rfl (by kernel_rfl); · (intro px K hK; go_big_quiet_op; first | exact hK | (apply Exists.intro; refine ⟨fun _ => ?_, ?_⟩; (· ((first | (go_at_call 15; with_reducible exact Gives.inFloat (xat_any _ _ _)) | (go_at_call 14; with_reducible exact Gives.inFloat (KN.out _ (Up.ext hw.out _)))))); exact hK))) | (apply walkF_skip rfl; simp only [Act.put, List.setIfInBounds_toArray, List.set_cons_zero, List.set_cons_succ])))
          refine walkF_lazy (.int .i64 0) rfl rfl (fun _ => by simp [go_sem]) ?_
          simp only [Act.put, List.setIfInBounds_toArray, List.set_cons_zero, List.set_cons_succ]
          refine walkF_nil (end1 (fun Q1 U hq hU bq => ?_))
          simp only [Act.put, List.setIfInBounds_toArray, List.set_cons_zero, List.set_cons_succ]
          (try simp only [List.filterMap_cons, List.filterMap_nil, List.getElem?_toArray, List.getElem?_cons_zero, List.getElem?_cons_succ])
          have hU1 : Up wr U := hU
          have HQ1 := hide (And.intro (hw.out.trans hU1) bq)
          clear cw0 cw1 lcw cp0 cp1 lcp
          have cq0 := bq.cell 0 rfl
          have cq1 := bq.cell 1 rfl
          have cq2 := bq.cell 2 rfl
          have cq3 := bq.cell 3 rfl
          have lcq := bq.lt
          have fcq0 := bq.frozen 0
          have fcq1 := bq.frozen 1
          have fcq2 := bq.frozen 2
          have fcq3 := bq.frozen 3
          have hq1 : Y4.heap.size ≤ Q1 := by omega
          clear hU hU1 bq hYw
          go_wp2_with fail
          refine forgetW (fun Y => Up Y4 Y ∧ Box Y Q1 #[.int .i64 PN.1, .int .i64 PN.2.1, .int .i64 PN.2.2.1, .int .i64 PN.2.2.2] 38) ⟨?_, ?_⟩ ?_
          · exact (by repeat (first | with_reducible exact HQ1.out.1 | with_reducible apply Up.ext | with_reducible apply Up.alloc | with_reducible apply Up.drew | (with_reducible refine Up.setCell ?_ (by simp only; omega) _)))
          · exact (by (repeat (first | with_reducible apply Box.ext | with_reducible apply Box.alloc | with_reducible apply Box.drew)); exact ((((HQ1.out.2.set 0 (.int .i64 PN.1)).set 1 (.int .i64 PN.2.1)).set 2 (.int .i64 PN.2.2.1)).set 3 (.int .i64 PN.2.2.2)))
          rintro Z1 ⟨hw, bq1⟩
          replace hw := hide hw
          replace bq1 := hide bq1
          clear HQ1 hq cq0 cq1 cq2 cq3 lcq fcq0 fcq1 fcq2 fcq3
          have bwr := HB4.out.2.1.up hw.out
          have cw0 := bwr.cell 0 rfl
          have cw1 := bwr.cell 1 rfl
          have lcw := bwr.lt
          have bpr := HB4.out.2.2.1.up hw.out
          have cp0 := bpr.cell 0 rfl
          have cp1 := bpr.cell 1 rfl
          have lcp := bpr.lt
          clear bwr bpr
          have hYw := hw.out.below.size
          refine wp_region_floatz (al := [(12, 24, #[.int .i64 (0), .int .i64 (0), .int .i64 (0), .int .i64 (0)], 38)]) (mv := fun _ => false) 11 [13, 14] [0, 1, 2, 3, 4, 5, 6, 7, 8, 9, 10, 11] (by kernel_rfl) (by kernel_rfl) rfl (fun _ => rfl) (fun _ _ _ _ h => h) (makes1 ⟨_, rfl, rfl, fun _ => rfl, fun _ _ => by simp [go_sem]⟩) (cls_ext _) (by first | exact drew_in2 _ _ | exact drew_in _) (Nat.le_refl _) ?_
          simp only [withOps, List.filterMap_cons, List.filterMap_nil, List.getElem?_toArray, List.getElem?_cons_zero, List.getElem?_cons_succ, Option.map_some]
          (repeat (first | (apply walkF_pure (base := fun p : Ext => ext _ p) rfl rfl rfl (by kernel_rfl); · (intro px K hK; go_big_quiet_op; first | exact hK | (apply Exists.intro; refine ⟨fun _ => ?_, ?_⟩; (· ((first | (go_at_call 15; with_reducible exact Gives.inFloat (xat_any _ _ _)) | (go_at_call 14; with_reducible exact Gives.inFloat (KK.out _ (Up.ext hw.out _)))))); exact hK))) | (apply walkF_skip rfl; simp only [Act.put, List.setIfInBounds_toArray, List.set_cons_zero, List.set_cons_succ])))
          refine walkF_lazy (.int .i64 0) rfl rfl (fun _ => by simp [go_sem]) ?_
          simp only [Act.put, List.setIfInBounds_toArray, List.set_cons_zero, List.set_cons_succ]
          refine walkF_nil (end1 (fun Q2 U hq hU bq => ?_))
          simp only [Act.put, List.setIfInBounds_toArray, List.set_cons_zero, List.set_cons_succ]
          (try simp only [List.filterMap_cons, List.filterMap_nil, List.getElem?_toArray, List.getElem?_cons_zero, List.getElem?_cons_succ])
          have hU1 : Up Z1 U := hU
          have HQ1 := hide (And.intro (hw.out.trans hU1) (And.intro (bq1.out.up hU1) bq))
          clear cw0 cw1 lcw cp0 cp1 lcp
          have nQ : Q1 ≠ Q2 := by have := bq1.out.lt; omega
          have cq0 := bq.cell 0 rfl
          have cq1 := bq.cell 1 rfl
          have cq2 := bq.cell 2 rfl
          have cq3 := bq.cell 3 rfl
          have lcq := bq.lt
          have fcq0 := bq.frozen 0
          have fcq1 := bq.frozen 1
          have fcq2 := bq.frozen 2
          have fcq3 := bq.frozen 3
          have hq2 : Y4.heap.size ≤ Q2 := by omega
          clear hU hU1 bq hYw bq1
          go_wp2_with fail
          refine forgetW (fun Y => Up Y4 Y ∧ Box Y Q1 #[.int .i64 PN.1, .int .i64 PN.2.1, .int .i64 PN.2.2.1, .int .i64 PN.2.2.2] 38 ∧ Box Y Q2 #[.int .i64 PK.1, .int .i64 PK.2.1, .int .i64 PK.2.2.1, .int .i64 PK.2.2.2] 38) ⟨?_, ?_, ?_⟩ ?_
          · exact (by repeat (first | with_reducible exact HQ1.out.1 | with_reducible apply Up.ext | with_reducible apply Up.alloc | with_reducible apply Up.drew | (with_reducible refine Up.setCell ?_ (by simp only; omega) _)))
          · exact (by repeat (first | with_reducible exact HQ1.out.2.1 | with_reducible apply Box.ext | with_reducible apply Box.alloc | with_reducible apply Box.drew | (with_reducible refine Box.other ?_ (by omega) _ _)))
          · exact (by (repeat (first | with_reducible apply Box.ext | with_reducible apply Box.alloc | with_reducible apply Box.drew)); exact ((((HQ1.out.2.2.set 0 (.int .i64 PK.1)).set 1 (.int .i64 PK.2.1)).set 2 (.int .i64 PK.2.2.1)).set 3 (.int .i64 PK.2.2.2)))
          rintro Z2 ⟨hw2, bq1, bq2⟩
          clear HQ1 hq cq0 cq1 cq2 cq3 lcq fcq0 fcq1 fcq2 fcq3
          have cq0 := bq1.cell 0 rfl
          have cq1 := bq1.cell 1 rfl
          have cq2 := bq1.cell 2 rfl
          have cq3 := bq1.cell 3 rfl
          have lcq := bq1.lt
          have cr0 := bq2.cell 0 rfl
          have cr1 := bq2.cell 1 rfl
          have cr2 := bq2.cell 2 rfl
          have cr3 := bq2.cell 3 rfl
          have lcr := bq2.lt
          replace hw2 := hide hw2
          clear bq1 bq2
          by_cases hkn : k = kk
          · have e1 : ((k : Int) == (kk : Int)) = true := by simp; omega
            have e2 : ((k : Int) != (kk : Int)) = false := by simp; omega
            replace hkn := hide hkn
            clear hsK0
            ((first | with_reducible refine wp_region_ext2 (by kernel_rfl) (by kernel_rfl) ?_ | refine wp_region_ext (by kernel_rfl) (by kernel_rfl) ?_); (repeat (go_big_quiet_step (fail))); refine wpQuiet_nil ?_; intro _ hw'; obtain ⟨_, hw''⟩ := hw'; subst hw'')
            go_wp2
            go_roundw
            case rel => exact ⟨k + 1, by go_num, by omega, hide (by repeat (first | with_reducible exact hw2.out | with_reducible exact Up.refl _ | apply Up.ext | apply Up.alloc | apply Up.drew | (refine Up.setCell ?_ (by simp [World.setCell]; try omega) _)))⟩
            case measure => simp [intOf]; omega
          · have e1 : ((k : Int) == (kk : Int)) = false := by simp; omega
            have e2 : ((k : Int) != (kk : Int)) = true := by simp; omega
            have e3 : decide (sN ≤ sK) = false := by have := hsK0 hkn; simp; omega
            replace hkn := hide hkn
            clear hsK0
            ((first | with_reducible refine wp_region_ext2 (by kernel_rfl) (by kernel_rfl) ?_ | refine wp_region_ext (by kernel_rfl) (by kernel_rfl) ?_); (repeat (go_big_quiet_step ((first | (go_at_call 38; with_reducible exact Gives.inRegion (KSN.out _)) | (go_at_call 38; with_reducible exact Gives.inRegion (KSK.out _)))))); refine wpQuiet_nil ?_; intro _ hw'; obtain ⟨_, hw''⟩ := hw'; subst hw'')
            go_wp2
            go_roundw
            case rel => exact ⟨k + 1, by go_num, by omega, hide (by repeat (first | with_reducible exact hw2.out | with_reducible exact Up.refl _ | apply Up.ext | apply Up.alloc | apply Up.drew | (refine Up.setCell ?_ (by simp [World.setCell]; try omega) _)))⟩
            case measure => simp [intOf]; omega
        · have hkb : decide ((k : Int) < s.bodies.length) = false := by simp; omega
          have hu := hw
          have bwr := HB4.out.2.1.up hu.out
          have cw0 := bwr.cell 0 rfl
          have cw1 := bwr.cell 1 rfl
          have lcw := bwr.lt
          clear bwr
          have hbw := BodsX.keeps HB4.out.2.2.2.2.2 (hu.out.keeps _)
          obtain ⟨cmu, lG, fG, hGK⟩ := bods_mu hbw hil
          rw [bodD_at HE.out.2.2.2.2.2.1, HE.out.2.2.2.2.2.2.1] at cmu
          have fG0 := fG (i * 3)
          have hib : decide (i < s.bodies.length) = true := by simp; omega
          clear fG hbw
          go_wp2_with fail
          refine forgetW (fun Y => Up Y4 Y) (by repeat (first | with_reducible exact hu.out | with_reducible exact Up.refl _ | apply Up.ext | apply Up.alloc | apply Up.drew | (refine Up.setCell ?_ (by simp [World.setCell]; try omega) _))) ?_
          rintro Z1 hz
          replace hz := hide hz
          clear cw0 cw1 lcw cmu lG fG0 hu
          have bwr := HB4.out.2.1.up hz.out
          have cw0 := bwr.cell 0 rfl
          have cw1 := bwr.cell 1 rfl
          have lcw := bwr.lt
          clear bwr
          have hbw := BodsX.keeps HB4.out.2.2.2.2.2 (hz.out.keeps _)
          obtain ⟨cmu, lG, fG, _⟩ := bods_mu hbw hil
          rw [bodD_at HE.out.2.2.2.2.2.1, HE.out.2.2.2.2.2.2.1] at cmu
          have fG0 := fG (i * 3)
          clear fG hbw
          refine wp_region_float (al := []) (mv := fun _ => false) [11] [0, 1, 2, 3, 4, 5, 6, 7, 8, 9, 10] (by kernel_rfl) (by kernel_rfl) makes0 (cls_ext _) (by first | exact drew_in2 _ _ | exact drew_in _) (Nat.le_refl _) ?_
          simp only [withOps, List.filterMap_cons, List.filterMap_nil, List.getElem?_toArray, List.getElem?_cons_zero, List.getElem?_cons_succ, Option.map_some]
          (repeat (first | (apply walkF_pure (base := fun p : Ext => ext _ p) rfl rfl rfl (by kernel_rfl); · (intro px K hK; go_big_quiet_op; first | exact hK | (apply Exists.intro; refine ⟨fun _ => ?_, ?_⟩; (· ((go_at_call 28; with_reducible exact Gives.inFloat (KM4.out _)))); exact hK))) | (apply walkF_skip rfl; simp only [Act.put, List.setIfInBounds_toArray, List.set_cons_zero, List.set_cons_succ])))
          refine walkF_nil (end0 (fun U hU => ?_))
          (try simp only [List.filterMap_cons, List.filterMap_nil, List.getElem?_toArray, List.getElem?_cons_zero, List.getElem?_cons_succ])
          have hYU : Up Y4 U := hz.out.trans hU
          clear cw0 cw1 lcw cmu lG fG0
          have bwU := HB4.out.2.1.up hYU
          have cw0 := bwU.cell 0 rfl
          have cw1 := bwU.cell 1 rfl
          have lcw := bwU.lt
          have bsU := HB4.out.2.2.2.1.up hYU
          have cs0 := bsU.cell 0 rfl
          have cs1 := bsU.cell 1 rfl
          have cs2 := bsU.cell 2 rfl
          have cs3 := bsU.cell 3 rfl
          have lcs := bsU.lt
          have hbw := BodsX.keeps HB4.out.2.2.2.2.2 (hYU.keeps _)
          obtain ⟨cmu, lG, fG, _⟩ := bods_mu hbw hil
          have fG0 := fG (i * 3)
          have nGN : N ≠ G := by omega
          have nGT : T8 ≠ G := by omega
          have nGA : A2 ≠ G := by omega
          have hwG : w.heap.size ≤ G := by have := HU.out.1.below.size; omega
          have HT := hide (And.intro (HB4.out.1.trans hYU) (And.intro bwU (And.intro bsU (And.intro (HB4.out.2.2.2.2.1.up hYU) hbw))))
          clear bwU bsU fG hbw hYU hU
          go_wp2_with fail
          go_at_call 36
          refine forgetC (fun Y => Up w Y ∧ Box Y N #[.slice (some ⟨G, 0, none⟩) s.bodies.length sc1, .int .i64 s.home] 34 ∧ Box Y A2 #[.int .i64 (e1), .int .i64 (e2)] 36 ∧ BodsX G (fun b => W0.heap.size ≤ b ∧ b < N) Y (.slice (some ⟨G, 0, none⟩) s.bodies.length sc1) (s.bodies.set i { bi with mu := mu + f4 })) ⟨?_, ?_, ?_, ?_⟩ ?_
          · exact HT.out.1.setCell hwG _
          · exact HT.out.2.1.other nGN _ _
          · exact HT.out.2.2.2.1.other nGA _ _
          · exact BodsX.mu HT.out.2.2.2.2 HE.out.2.2.2.2.2.1 ⟨by omega, by omega⟩
          rintro Y5 ⟨hY5, bw, ba2, hbod⟩
          clear HT cw0 cw1 lcw cs0 cs1 cs2 cs3 lcs cmu lG fG0
          have KE3 := hide (fun W' (hu : Up Y5 W') => energy_at (hbod.bods.keeps (hu.keeps _)) HE.out.2.2.2.2.2.2.2.2 HE.out.2.1)
          have KCW := hide (fun W' (hu : Up Y5 W') => show Gives Try.prog 39 #[.agg #[.slice (some ⟨G, 0, none⟩) s.bodies.length sc1, .int .i64 s.home]] W' (.int .i64 0) by
            have := skworld_any (hbod.bods.keeps (hu.keeps _)) HE.out.2.2.2.2.2.2.2.2
            rw [HE.out.2.2.2.2.1] at this
            exact this)
          have cw0 := bw.cell 0 rfl
          have cw1 := bw.cell 1 rfl
          have lcw := bw.lt
          have ca0 := ba2.cell 0 rfl
          have ca1 := ba2.cell 1 rfl
          have lca := ba2.lt
          have q4b : decide (c1 ≤ e1) = true := by simp; omega
          have q5b : decide (c2 ≤ e2) = true := by simp; omega
          have HY := hide hY5
          clear hY5 bw ba2 hbod
          refine (KE3.out _ (Up.refl _)).mono ?_
          intro p9
          go_wp2_with (first | (go_at_call 39; (with_reducible refine (KCW.out _ (by repeat (first | with_reducible exact Up.refl _ | with_reducible apply Up.plus | apply Up.ext | apply Up.alloc | apply Up.drew | (refine Up.setCell ?_ (by simp; try omega) _)))).mono ?_); intro _) | (go_at_call 18; (with_reducible refine (awake_any _).mono ?_); intro _))
          go_ret
          exact ⟨rfl, (by repeat (first | with_reducible exact HY.out | with_reducible exact Up.refl _ | apply Up.ext | apply Up.alloc | apply Up.drew | (refine Up.setCell ?_ (by simp [World.setCell]; try omega) _)))⟩
    · have hzb : (mk == 0) = false := by simp [hz]
      clear hm0 hz
      go_wp2_with fail
      go_loopw [21] (fun s21 wr => ∃ k : Nat, s21 = .int .i64 k ∧ k ≤ s.bodies.length ∧ Hid (Up Y4 wr)) (fun q _ => s.bodies.length - (intOf q).toNat)
      case atStart => exact ⟨0, by go_num, by omega, hide (by repeat (first | with_reducible exact Up.refl _ | with_reducible apply Up.plus | apply Up.ext | apply Up.alloc | apply Up.drew | (refine Up.setCell ?_ (by simp; try omega) _)))⟩
      case round =>
        obtain ⟨k, rfl, hk, hw⟩ := hrel
        clear cmk lGk cw0 cw1 lcw
        by_cases hlt : k < s.bodies.length
        · have hkb : decide ((k : Int) < s.bodies.length) = true := by simp; omega
          obtain ⟨PK, hPK⟩ : ∃ p, pullB t (px, px, py, py) (bodD s.bodies k) = p := ⟨_, rfl⟩
          have KK := hide (KO.out k hlt)
          rw [show pullB t (px, px, py, py) (s.bodies.getD k ⟨0, 0, []⟩) = PK from hPK] at KK
          have hoK := HORD.out k hlt
          have hsK0 := HBEST.out k hlt
          rw [hPK] at hoK hsK0
          obtain ⟨sK, hsK⟩ : ∃ x, (sizeP PK).2 = x := ⟨_, rfl⟩
          rw [hsK] at hsK0
          have KSK := hide (fun W => show Gives Try.prog 38 #[.agg #[.int .i64 PK.1, .int .i64 PK.2.1, .int .i64 PK.2.2.1, .int .i64 PK.2.2.2], .bool true] W (.int .i64 sK) by
            have := fsize_any hoK true W
            rw [if_pos rfl, hsK] at this
            exact this)
          clear hPK hoK hsK
          have bwr := HB4.out.2.1.up hw.out
          have cw0 := bwr.cell 0 rfl
          have cw1 := bwr.cell 1 rfl
          have lcw := bwr.lt
          have bpr := HB4.out.2.2.1.up hw.out
          have cp0 := bpr.cell 0 rfl
          have cp1 := bpr.cell 1 rfl
          have lcp := bpr.lt
          clear bwr bpr
          have hYw := hw.out.below.size
          go_wp2_with fail
          refine wp_region_floatz (al := [(12, 22, #[.int .i64 (0), .int .i64 (0), .int .i64 (0), .int .i64 (0)], 38)]) (mv := fun _ => false) 11 [13, 14] [0, 1, 2, 3, 4, 5, 6, 7, 8, 9, 10, 11] (by kernel_rfl) (by kernel_rfl) rfl (fun _ => rfl) (fun _ _ _ _ h => h) (makes1 ⟨_, rfl, rfl, fun _ => rfl, fun _ _ => by simp [go_sem]⟩) (cls_ext _) (by first | exact drew_in2 _ _ | exact drew_in _) (Nat.le_refl _) ?_
          simp only [withOps, List.filterMap_cons, List.filterMap_nil, List.getElem?_toArray, List.getElem?_cons_zero, List.getElem?_cons_succ, Option.map_some]
          (repeat (first | (apply walkF_pure (base := fun p : Ext => ext _ p) rfl rfl rfl (by kernel_rfl); · (intro px K hK; go_big_quiet_op; first | exact hK | (apply Exists.intro; refine ⟨fun _ => ?_, ?_⟩; (· ((first | (go_at_call 15; with_reducible exact Gives.inFloat (xat_any _ _ _)) | (go_at_call 14; with_reducible exact Gives.inFloat (KN.out _ (Up.ext hw.out _)))))); exact hK))) | (apply walkF_skip rfl; simp only [Act.put, List.setIfInBounds_toArray, List.set_cons_zero, List.set_cons_succ])))
          refine walkF_lazy (.int .i64 0) rfl rfl (fun _ => by simp [go_sem]) ?_
          simp only [Act.put, List.setIfInBounds_toArray, List.set_cons_zero, List.set_cons_succ]
          refine walkF_nil (end1 (fun Q1 U hq hU bq => ?_))
          simp only [Act.put, List.setIfInBounds_toArray, List.set_cons_zero, List.set_cons_succ]
          (try simp only [List.filterMap_cons, List.filterMap_nil, List.getElem?_toArray, List.getElem?_cons_zero, List.getElem?_cons_succ])
          have hU1 : Up wr U := hU
          have HQ1 := hide (And.intro (hw.out.trans hU1) bq)
          clear cw0 cw1 lcw cp0 cp1 lcp
          have cq0 := bq.cell 0 rfl
          have cq1 := bq.cell 1 rfl
          have cq2 := bq.cell 2 rfl
          have cq3 := bq.cell 3 rfl
          have lcq := bq.lt
          have fcq0 := bq.frozen 0
          have fcq1 := bq.frozen 1
          have fcq2 := bq.frozen 2
          have fcq3 := bq.frozen 3
          have hq1 : Y4.heap.size ≤ Q1 := by omega
          clear hU hU1 bq hYw
          go_wp2_with fail
          refine forgetW (fun Y => Up Y4 Y ∧ Box Y Q1 #[.int .i64 PN.1, .int .i64 PN.2.1, .int .i64 PN.2.2.1, .int .i64 PN.2.2.2] 38) ⟨?_, ?_⟩ ?_
          · exact (by repeat (first | with_reducible exact HQ1.out.1 | with_reducible apply Up.ext | with_reducible apply Up.alloc | with_reducible apply Up.drew | (with_reducible refine Up.setCell ?_ (by simp only; omega) _)))
          · exact (by (repeat (first | with_reducible apply Box.ext | with_reducible apply Box.alloc | with_reducible apply Box.drew)); exact ((((HQ1.out.2.set 0 (.int .i64 PN.1)).set 1 (.int .i64 PN.2.1)).set 2 (.int .i64 PN.2.2.1)).set 3 (.int .i64 PN.2.2.2)))
          rintro Z1 ⟨hw, bq1⟩
          replace hw := hide hw
          replace bq1 := hide bq1
          clear HQ1 hq cq0 cq1 cq2 cq3 lcq fcq0 fcq1 fcq2 fcq3
          have bwr := HB4.out.2.1.up hw.out
          have cw0 := bwr.cell 0 rfl
          have cw1 := bwr.cell 1 rfl
          have lcw := bwr.lt
          have bpr := HB4.out.2.2.1.up hw.out
          have cp0 := bpr.cell 0 rfl
          have cp1 := bpr.cell 1 rfl
          have lcp := bpr.lt
          clear bwr bpr
          have hYw := hw.out.below.size
          refine wp_region_floatz (al := [(12, 24, #[.int .i64 (0), .int .i64 (0), .int .i64 (0), .int .i64 (0)], 38)]) (mv := fun _ => false) 11 [13, 14] [0, 1, 2, 3, 4, 5, 6, 7, 8, 9, 10, 11] (by kernel_rfl) (by kernel_rfl) rfl (fun _ => rfl) (fun _ _ _ _ h => h) (makes1 ⟨_, rfl, rfl, fun _ => rfl, fun _ _ => by simp [go_sem]⟩) (cls_ext _) (by first | exact drew_in2 _ _ | exact drew_in _) (Nat.le_refl _) ?_
          simp only [withOps, List.filterMap_cons, List.filterMap_nil, List.getElem?_toArray, List.getElem?_cons_zero, List.getElem?_cons_succ, Option.map_some]
          (repeat (first | (apply walkF_pure (base := fun p : Ext => ext _ p) rfl rfl rfl (by kernel_rfl); · (intro px K hK; go_big_quiet_op; first | exact hK | (apply Exists.intro; refine ⟨fun _ => ?_, ?_⟩; (· ((first | (go_at_call 15; with_reducible exact Gives.inFloat (xat_any _ _ _)) | (go_at_call 14; with_reducible exact Gives.inFloat (KK.out _ (Up.ext hw.out _)))))); exact hK))) | (apply walkF_skip rfl; simp only [Act.put, List.setIfInBounds_toArray, List.set_cons_zero, List.set_cons_succ])))
          refine walkF_lazy (.int .i64 0) rfl rfl (fun _ => by simp [go_sem]) ?_
          simp only [Act.put, List.setIfInBounds_toArray, List.set_cons_zero, List.set_cons_succ]
          refine walkF_nil (end1 (fun Q2 U hq hU bq => ?_))
          simp only [Act.put, List.setIfInBounds_toArray, List.set_cons_zero, List.set_cons_succ]
          (try simp only [List.filterMap_cons, List.filterMap_nil, List.getElem?_toArray, List.getElem?_cons_zero, List.getElem?_cons_succ])
          have hU1 : Up Z1 U := hU
          have HQ1 := hide (And.intro (hw.out.trans hU1) (And.intro (bq1.out.up hU1) bq))
          clear cw0 cw1 lcw cp0 cp1 lcp
          have nQ : Q1 ≠ Q2 := by have := bq1.out.lt; omega
          have cq0 := bq.cell 0 rfl
          have cq1 := bq.cell 1 rfl
          have cq2 := bq.cell 2 rfl
          have cq3 := bq.cell 3 rfl
          have lcq := bq.lt
          have fcq0 := bq.frozen 0
          have fcq1 := bq.frozen 1
          have fcq2 := bq.frozen 2
          have fcq3 := bq.frozen 3
          have hq2 : Y4.heap.size ≤ Q2 := by omega
          clear hU hU1 bq hYw bq1
          go_wp2_with fail
          refine forgetW (fun Y => Up Y4 Y ∧ Box Y Q1 #[.int .i64 PN.1, .int .i64 PN.2.1, .int .i64 PN.2.2.1, .int .i64 PN.2.2.2] 38 ∧ Box Y Q2 #[.int .i64 PK.1, .int .i64 PK.2.1, .int .i64 PK.2.2.1, .int .i64 PK.2.2.2] 38) ⟨?_, ?_, ?_⟩ ?_
          · exact (by repeat (first | with_reducible exact HQ1.out.1 | with_reducible apply Up.ext | with_reducible apply Up.alloc | with_reducible apply Up.drew | (with_reducible refine Up.setCell ?_ (by simp only; omega) _)))
          · exact (by repeat (first | with_reducible exact HQ1.out.2.1 | with_reducible apply Box.ext | with_reducible apply Box.alloc | with_reducible apply Box.drew | (with_reducible refine Box.other ?_ (by omega) _ _)))
          · exact (by (repeat (first | with_reducible apply Box.ext | with_reducible apply Box.alloc | with_reducible apply Box.drew)); exact ((((HQ1.out.2.2.set 0 (.int .i64 PK.1)).set 1 (.int .i64 PK.2.1)).set 2 (.int .i64 PK.2.2.1)).set 3 (.int .i64 PK.2.2.2)))
          rintro Z2 ⟨hw2, bq1, bq2⟩
          clear HQ1 hq cq0 cq1 cq2 cq3 lcq fcq0 fcq1 fcq2 fcq3
          have cq0 := bq1.cell 0 rfl
          have cq1 := bq1.cell 1 rfl
          have cq2 := bq1.cell 2 rfl
          have cq3 := bq1.cell 3 rfl
          have lcq := bq1.lt
          have cr0 := bq2.cell 0 rfl
          have cr1 := bq2.cell 1 rfl
          have cr2 := bq2.cell 2 rfl
          have cr3 := bq2.cell 3 rfl
          have lcr := bq2.lt
          replace hw2 := hide hw2
          clear bq1 bq2
          by_cases hkn : k = kk
          · have e1 : ((k : Int) == (kk : Int)) = true := by simp; omega
            have e2 : ((k : Int) != (kk : Int)) = false := by simp; omega
            replace hkn := hide hkn
            clear hsK0
            ((first | with_reducible refine wp_region_ext2 (by kernel_rfl) (by kernel_rfl) ?_ | refine wp_region_ext (by kernel_rfl) (by kernel_rfl) ?_); (repeat (go_big_quiet_step (fail))); refine wpQuiet_nil ?_; intro _ hw'; obtain ⟨_, hw''⟩ := hw'; subst hw'')
            go_wp2
            go_roundw
            case rel => exact ⟨k + 1, by go_num, by omega, hide (by repeat (first | with_reducible exact hw2.out | with_reducible exact Up.refl _ | apply Up.ext | apply Up.alloc | apply Up.drew | (refine Up.setCell ?_ (by simp [World.setCell]; try omega) _)))⟩
            case measure => simp [intOf]; omega
          · have e1 : ((k : Int) == (kk : Int)) = false := by simp; omega
            have e2 : ((k : Int) != (kk : Int)) = true := by simp; omega
            have e3 : decide (sN ≤ sK) = false := by have := hsK0 hkn; simp; omega
            replace hkn := hide hkn
            clear hsK0
            ((first | with_reducible refine wp_region_ext2 (by kernel_rfl) (by kernel_rfl) ?_ | refine wp_region_ext (by kernel_rfl) (by kernel_rfl) ?_); (repeat (go_big_quiet_step ((first | (go_at_call 38; with_reducible exact Gives.inRegion (KSN.out _)) | (go_at_call 38; with_reducible exact Gives.inRegion (KSK.out _)))))); refine wpQuiet_nil ?_; intro _ hw'; obtain ⟨_, hw''⟩ := hw'; subst hw'')
            go_wp2
            go_roundw
            case rel => exact ⟨k + 1, by go_num, by omega, hide (by repeat (first | with_reducible exact hw2.out | with_reducible exact Up.refl _ | apply Up.ext | apply Up.alloc | apply Up.drew | (refine Up.setCell ?_ (by simp [World.setCell]; try omega) _)))⟩
            case measure => simp [intOf]; omega
        · have hkb : decide ((k : Int) < s.bodies.length) = false := by simp; omega
          have hu := hw
          have bwr := HB4.out.2.1.up hu.out
          have cw0 := bwr.cell 0 rfl
          have cw1 := bwr.cell 1 rfl
          have lcw := bwr.lt
          clear bwr
          have hbw := BodsX.keeps HB4.out.2.2.2.2.2 (hu.out.keeps _)
          obtain ⟨cmu, lG, fG, hGK⟩ := bods_mu hbw hil
          rw [bodD_at HE.out.2.2.2.2.2.1, HE.out.2.2.2.2.2.2.1] at cmu
          have fG0 := fG (i * 3)
          have hib : decide (i < s.bodies.length) = true := by simp; omega
          clear fG hbw
          go_wp2_with fail
          refine forgetW (fun Y => Up Y4 Y) (by repeat (first | with_reducible exact hu.out | with_reducible exact Up.refl _ | apply Up.ext | apply Up.alloc | apply Up.drew | (refine Up.setCell ?_ (by simp [World.setCell]; try omega) _))) ?_
          rintro Z1 hz
          replace hz := hide hz
          clear cw0 cw1 lcw cmu lG fG0 hu
          have bwr := HB4.out.2.1.up hz.out
          have cw0 := bwr.cell 0 rfl
          have cw1 := bwr.cell 1 rfl
          have lcw := bwr.lt
          clear bwr
          have hbw := BodsX.keeps HB4.out.2.2.2.2.2 (hz.out.keeps _)
          obtain ⟨cmu, lG, fG, _⟩ := bods_mu hbw hil
          rw [bodD_at HE.out.2.2.2.2.2.1, HE.out.2.2.2.2.2.2.1] at cmu
          have fG0 := fG (i * 3)
          clear fG hbw
          refine wp_region_float (al := []) (mv := fun _ => false) [11] [0, 1, 2, 3, 4, 5, 6, 7, 8, 9, 10] (by kernel_rfl) (by kernel_rfl) makes0 (cls_ext _) (by first | exact drew_in2 _ _ | exact drew_in _) (Nat.le_refl _) ?_
          simp only [withOps, List.filterMap_cons, List.filterMap_nil, List.getElem?_toArray, List.getElem?_cons_zero, List.getElem?_cons_succ, Option.map_some]
          (repeat (first | (apply walkF_pure (base := fun p : Ext => ext _ p) rfl rfl rfl (by kernel_rfl); · (intro px K hK; go_big_quiet_op; first | exact hK | (apply Exists.intro; refine ⟨fun _ => ?_, ?_⟩; (· ((go_at_call 28; with_reducible exact Gives.inFloat (KM4.out _)))); exact hK))) | (apply walkF_skip rfl; simp only [Act.put, List.setIfInBounds_toArray, List.set_cons_zero, List.set_cons_succ])))
          refine walkF_nil (end0 (fun U hU => ?_))
          (try simp only [List.filterMap_cons, List.filterMap_nil, List.getElem?_toArray, List.getElem?_cons_zero, List.getElem?_cons_succ])
          have hYU : Up Y4 U := hz.out.trans hU
          clear cw0 cw1 lcw cmu lG fG0
          have bwU := HB4.out.2.1.up hYU
          have cw0 := bwU.cell 0 rfl
          have cw1 := bwU.cell 1 rfl
          have lcw := bwU.lt
          have bsU := HB4.out.2.2.2.1.up hYU
          have cs0 := bsU.cell 0 rfl
          have cs1 := bsU.cell 1 rfl
          have cs2 := bsU.cell 2 rfl
          have cs3 := bsU.cell 3 rfl
          have lcs := bsU.lt
          have hbw := BodsX.keeps HB4.out.2.2.2.2.2 (hYU.keeps _)
          obtain ⟨cmu, lG, fG, _⟩ := bods_mu hbw hil
          have fG0 := fG (i * 3)
          have nGN : N ≠ G := by omega
          have nGT : T8 ≠ G := by omega
          have nGA : A2 ≠ G := by omega
          have hwG : w.heap.size ≤ G := by have := HU.out.1.below.size; omega
          have HT := hide (And.intro (HB4.out.1.trans hYU) (And.intro bwU (And.intro bsU (And.intro (HB4.out.2.2.2.2.1.up hYU) hbw))))
          clear bwU bsU fG hbw hYU hU
          go_wp2_with fail
          go_at_call 36
          refine forgetC (fun Y => Up w Y ∧ Box Y N #[.slice (some ⟨G, 0, none⟩) s.bodies.length sc1, .int .i64 s.home] 34 ∧ Box Y A2 #[.int .i64 (e1), .int .i64 (e2)] 36 ∧ BodsX G (fun b => W0.heap.size ≤ b ∧ b < N) Y (.slice (some ⟨G, 0, none⟩) s.bodies.length sc1) (s.bodies.set i { bi with mu := mu + f4 })) ⟨?_, ?_, ?_, ?_⟩ ?_
          · exact HT.out.1.setCell hwG _
          · exact HT.out.2.1.other nGN _ _
          · exact HT.out.2.2.2.1.other nGA _ _
          · exact BodsX.mu HT.out.2.2.2.2 HE.out.2.2.2.2.2.1 ⟨by omega, by omega⟩
          rintro Y5 ⟨hY5, bw, ba2, hbod⟩
          clear HT cw0 cw1 lcw cs0 cs1 cs2 cs3 lcs cmu lG fG0
          have KE3 := hide (fun W' (hu : Up Y5 W') => energy_at (hbod.bods.keeps (hu.keeps _)) HE.out.2.2.2.2.2.2.2.2 HE.out.2.1)
          have KCW := hide (fun W' (hu : Up Y5 W') => show Gives Try.prog 39 #[.agg #[.slice (some ⟨G, 0, none⟩) s.bodies.length sc1, .int .i64 s.home]] W' (.int .i64 0) by
            have := skworld_any (hbod.bods.keeps (hu.keeps _)) HE.out.2.2.2.2.2.2.2.2
            rw [HE.out.2.2.2.2.1] at this
            exact this)
          have cw0 := bw.cell 0 rfl
          have cw1 := bw.cell 1 rfl
          have lcw := bw.lt
          have ca0 := ba2.cell 0 rfl
          have ca1 := ba2.cell 1 rfl
          have lca := ba2.lt
          have q4b : decide (c1 ≤ e1) = true := by simp; omega
          have q5b : decide (c2 ≤ e2) = true := by simp; omega
          have HY := hide hY5
          clear hY5 bw ba2 hbod
          refine (KE3.out _ (Up.refl _)).mono ?_
          intro p9
          go_wp2_with (first | (go_at_call 39; (with_reducible refine (KCW.out _ (by repeat (first | with_reducible exact Up.refl _ | with_reducible apply Up.plus | apply Up.ext | apply Up.alloc | apply Up.drew | (refine Up.setCell ?_ (by simp; try omega) _)))).mono ?_); intro _) | (go_at_call 18; (with_reducible refine (awake_any _).mono ?_); intro _))
          go_ret
          exact ⟨rfl, (by repeat (first | with_reducible exact HY.out | with_reducible exact Up.refl _ | apply Up.ext | apply Up.alloc | apply Up.drew | (refine Up.setCell ?_ (by simp [World.setCell]; try omega) _)))⟩
set_option maxRecDepth 100000 in
theorem fener_lifted (os : Os) (started : os.Started) (H : Type) (enc : TypeId × Value → H) :
    ReturnsInHanded {} Try.checked os 8 .any (Rows.forceEnergiesSpec.pre6 enc Try.prog Try.f8 Rows.forceEnergiesRow.domain false) (Rows.forceEnergiesSpec.post enc Try.prog Try.f8 false true false false) := by
  refine returnsInHanded_of_change (C := Try.checked) knob_own started (by kernel_rfl) Try.func8
    (ChangeSpec.witness6 (enc := enc) (C := Try.checked) false ⟨#[], #[.slice none 0 0, .int .i64 0, .int .i64 0, .int .i64 0], []⟩ 8 (by kernel_rfl) (by kernel_rfl) (by kernel_rfl) (by kernel_rfl)) ?_
  intro W base args ds gs before hval0 hW _ _
  have hval : ∀ (j : Nat) t v, Try.f8.params[j]? = some t → args[j]? = some v → Value.okWide Try.prog W .any base t v := hval0
  have hW' := hW
  obtain ⟨p, q, hA0, hV, rfl, _, _⟩ := hW
  have hA : DataW.TrodAll enc Try.prog W 0 (fun _ => true) true Try.f8.params.toList args.toList ds p := hA0
  rw [Try.params8] at hA hval
  obtain ⟨v0, vs0, d0, ds0, p0, q0, hargs, rfl, rfl, h0, r0⟩ := trodAll_cons hA
  obtain ⟨v1, vs1, d1, ds1, p1, q1, rfl, rfl, rfl, h1, r1⟩ := trodAll_cons r0
  obtain ⟨v2, vs2, d2, ds2, p2, q2, rfl, rfl, rfl, h2, r2⟩ := trodAll_cons r1
  obtain ⟨v3, vs3, d3, ds3, p3, q3, rfl, rfl, rfl, h3, r3⟩ := trodAll_cons r2
  obtain ⟨rfl, rfl, rfl⟩ := trodAll_nil r3
  obtain rfl : args = #[v0, v1, v2, v3] := by cases args; simp_all
  obtain ⟨rfl, rfl⟩ := trodVars_none hV
  have hlt0 : ∀ x ∈ p0, x.block < W.heap.size := fun x hx => hW'.lt x (by simp [hx])
  obtain ⟨hn0, shut0⟩ := open_nums (hval 0 22 v0 rfl rfl) h0 hlt0
  obtain ⟨a1, rfl, rfl, rfl, w1⟩ := open_int Try.underlying2 (hval 1 2 v1 rfl rfl) h1
  obtain ⟨a2, rfl, rfl, rfl, w2⟩ := open_int Try.underlying2 (hval 2 2 v2 rfl rfl) h2
  obtain ⟨a3, rfl, rfl, rfl, w3⟩ := open_int Try.underlying2 (hval 3 2 v3 rfl rfl) h3
  clear hA0 hval0
  simp only [List.append_nil] at hW'
  refine (fener_law v0 hn0 a1 a2 a3 (i64_bds w1) (i64_bds w2) (i64_bds w3)).mono fun px => ?_
  exact ⟨_, rfl, post_of_below (pa := (p0 ++ (([] : List MemPlace) ++ (([] : List MemPlace) ++ (([] : List MemPlace) ++ []))))) (pv := []) hW' (fun _ _ _ => (trodAll_cons_mk (shut_bool Try.underlying4 _) trodAll_mk0)) (fun sp hsp => (trodAll_cons_mk (shut0 _ sp (Up.below ⟨px, rfl⟩) (fun x hx => hsp x (by simp [hx]))) (trodAll_cons_mk (shut_int Try.underlying2 w1) (trodAll_cons_mk (shut_int Try.underlying2 w2) (trodAll_cons_mk (shut_int Try.underlying2 w3) trodAll_mk0))))) (fun _ _ => rfl) (by simp)
    (Up.below ⟨px, rfl⟩) (ok_one (by kernel_rfl) rfl (okWide_bool_mk Try.underlying4 _))⟩

theorem fener_holds : Rows.ForceEnergiesSaid :=
  OpenClaim.holds_of_wide 8 Try.f8 rfl rfl rfl rfl rfl rfl rfl ⟨rfl, rfl, rfl, rfl, rfl⟩ rfl rfl rfl rfl rfl (by kernel_rfl) Try.func8 (by kernel_rfl)
    (of_decide_eq_true (by kernel_rfl)) (by unfold Func.isWrapper; rw [if_neg (by decide +kernel)]; exact ⟨rfl, rfl⟩)
    (fun os started H enc _ => fener_lifted os started H enc)
#print axioms fener_holds
end Go.Proofs.Ytbcgdhldkanecaa
