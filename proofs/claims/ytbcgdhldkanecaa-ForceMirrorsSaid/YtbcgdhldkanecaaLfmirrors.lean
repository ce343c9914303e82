/- ForceMirrors returns true for every input: in a world that is mirrored, or turned by a quarter, what moves a body is mirrored, or turned. No conditions. -/
import Derived.Test.YtbcgdhldkanecaaPostn
import Derived.Test.YtbcgdhldkanecaaPostb
import Derived.Test.YtbcgdhldkanecaaShown
import Derived.Test.YtbcgdhldkanecaaMade
import Derived.Test.YtbcgdhldkanecaaSumG
import Derived.Test.YtbcgdhldkanecaaMirW
import Derived.JoinedOf
import Derived.JoinedAt
import Derived.ChangeSame
import Derived.OpenShut
namespace Go.Proofs.Ytbcgdhldkanecaa
open Go.RowKit Go.ChangeShapes Go.WideShapes Go.ChangeAt Go.Joins Go.Shelf

/-- the worlds in which a world that was handed back lies -/
def OwnD (V : World) (home : Int) (n : Nat) (bs : List Bod) (v : Value) (W : World) : Prop :=
  (∃ p : Ext, W = ext V p) ∧ ∃ (g cap : Nat), v = .agg #[.slice (some ⟨g, 0, none⟩) n cap, .int .i64 home] ∧ Bods (fun _ => True) W (.slice (some ⟨g, 0, none⟩) n cap) bs
theorem ownD_cls (V : World) (home : Int) (n : Nat) (bs : List Bod) (v : Value) : Cls (fun W => ∃ p : Ext, W = ext V p) (OwnD V home n bs v) :=
  ⟨fun _ h => h.1, fun W q ⟨⟨p, hp⟩, g, cap, e, hb⟩ => ⟨⟨p.plus q, by rw [hp, ext_ext]⟩, g, cap, e, hb.keeps (Up.keeps ⟨q, rfl⟩ _)⟩⟩
theorem own_call {V : World} {home : Int} {n : Nat} {bs : List Bod} {f : FuncId} {args : Array Value} {B0 : Nat}
    (hc : ∀ W, Up V W → Calls Try.prog f args W fun e W' => ∃ (g cap : Nat) (p : Ext), e = .returned (.agg #[.slice (some ⟨g, 0, none⟩) n cap, .int .i64 home]) ∧ W' = ext W p ∧ Bods (fun b => W.heap.size ≤ b) W' (.slice (some ⟨g, 0, none⟩) n cap) bs) :
    ∀ W, (∃ p : Ext, W = ext V p) → Calls Try.prog f args W fun e w'' => ∃ v, e = .returned v ∧ (∃ (g cap : Nat), v = .agg #[.slice (some ⟨g, 0, none⟩) n cap, .int .i64 home]) ∧ OwnD V home n bs v w'' ∧ Stays B0 W w'' := fun W hW => by
  refine (hc W hW).mono ?_
  rintro _ _ ⟨g, cap, p, rfl, rfl, hb⟩
  obtain ⟨q, rfl⟩ := hW
  exact ⟨_, rfl, ⟨g, cap, rfl⟩, ⟨⟨q.plus p, by rw [ext_ext]⟩, g, cap, rfl, hb.mono fun _ _ _ => trivial⟩, Stays.ext _ _ _⟩
theorem over_call {V : World} {home : Int} {n : Nat} {bs : List Bod} {f : FuncId} {args : Array Value} {B0 g cap : Nat} {r : Value} (hc : ∀ W, Bods (fun _ => True) W (.slice (some ⟨g, 0, none⟩) n cap) bs → Gives Try.prog f args W r) :
    ∀ W, OwnD V home n bs (.agg #[.slice (some ⟨g, 0, none⟩) n cap, .int .i64 home]) W → Calls Try.prog f args W fun e w'' => ∃ v, e = .returned v ∧ v = r ∧ OwnD V home n bs (.agg #[.slice (some ⟨g, 0, none⟩) n cap, .int .i64 home]) w'' ∧ Stays B0 W w'' := fun W hW => by
  obtain ⟨⟨q, rfl⟩, g', cap', e, hb⟩ := hW
  simp at e
  obtain ⟨rfl, rfl⟩ := e
  refine Calls.mono (hc _ hb) fun e w'' h => ?_
  obtain ⟨rfl, p, rfl⟩ := h
  exact ⟨_, rfl, rfl, ⟨⟨q.plus p, by rw [ext_ext]⟩, g, cap, rfl, hb.keeps (Up.keeps ⟨p, rfl⟩ _)⟩, Stays.ext _ _ _⟩

set_option maxRecDepth 100000 in
set_option maxHeartbeats 100000000 in
theorem fmirror_law (v0 : Value) {w : World} (hN : Nums w v0) :
    Gives Try.prog 4 #[v0] w (.bool true) := by
  obtain ⟨sa, sn, sc, rfl⟩ := hN.form
  obtain ⟨B, hBe⟩ : ∃ B, w.heap.size = B := ⟨_, rfl⟩
  obtain ⟨W0, hW0⟩ : ∃ W0, w.alloc (.cells #[.slice sa sn sc, .int .i64 0] 81) = W0 := ⟨_, rfl⟩
  have hu0 : Up w W0 := by rw [← hW0]; exact (by repeat (first | with_reducible exact Up.refl _ | with_reducible apply Up.plus | apply Up.ext | apply Up.alloc | apply Up.drew | (refine Up.setCell ?_ (by simp; try omega) _)))
  have hb0 : Box W0 B #[.slice sa sn sc, .int .i64 0] 81 := by rw [← hW0]; exact Box.mk hBe
  have hBl : w.heap.size ≤ B := by omega
  have hl0 : W0.heap.size = B + 1 := by rw [← hW0, ← hBe]; simp
  have KS := hide (fun n V (hV : RingAt W0 B n V) (hn : n + 60 ≤ 100000) => skyof_at hN hBl hu0 hb0 hV hn)
  have KD := hide (fun n V (hV : RingAt W0 B n V) (hn : n + 6 ≤ 100000) => (driftof_r hN hBl).at hu0 hb0 hBl hV hn)
  have KA := hide (fun n V (hV : RingAt W0 B n V) (hn : n + 6 ≤ 100000) => (areaof_r hN hBl (most := 2200) (wide := 200) (by omega) (by omega) (by omega) (by omega)).at hu0 hb0 hBl hV hn)
  have KR := hide (fun n V (hV : RingAt W0 B n V) (hn : n + 1 ≤ 100000) => (range_r hN hBl (lo := 0) (hi := 60) (by omega) (by omega) (by omega)).at hu0 hb0 hBl hV hn)
  have HB0 := hide hb0
  have HR := hide (RingAt.start (n := 0) hb0 (by omega) (by omega))
  have HU := hide (And.intro hu0 hBl)
  clear hN hb0 hu0 hBl
  (unfold Gives; go_enter Try.func4, Try.ntmps4)
  go_wp2_with fail
  go_at_call 10
  refine (newring_any _ _ _ _).mono ?_
  rintro _ _ ⟨rfl, rfl⟩
  rw [hW0, hBe]
  clear hW0
  go_wp2_with fail
  go_at_call 19
  refine (KS.out _ _ HR.out (by omega)).mono ?_
  rintro _ V1 ⟨_, s, rfl, ⟨vb, vs, vc, rfl, hbod, hhome, _, _⟩, hsm, hR1, hg1⟩
  obtain ⟨ba, bc, rfl, hbl⟩ := hbod
  have hbod : Bods (fun b => W0.heap.size ≤ b) V1 (.slice ba s.bodies.length bc) s.bodies := ⟨ba, bc, rfl, hbl⟩
  clear hbl
  go_wp2_with fail
  go_at_call 20
  refine (KD.out _ _ hR1 (by omega)).mono ?_
  rintro _ V2 ⟨_, rfl, ⟨l1, l2, h1, h2, g, hl, hh, hg, rfl⟩, hR2, hg2⟩
  go_wp2_with fail
  go_at_call 21
  refine (KA.out _ _ hR2 (by omega)).mono ?_
  rintro _ V3 ⟨_, rfl, ⟨x0, x1, y0, y1, hx, hy, rfl⟩, hR3, hg3⟩
  go_wp2_with fail
  go_at_call 12
  refine (KR.out _ _ hR3 (by omega)).mono ?_
  rintro _ V4 ⟨_, rfl, ⟨t, t0, t1, rfl⟩, hR4, hg4⟩
  have hk : Keeps (fun b => W0.heap.size ≤ b) V1 V4 := (((Keeps.refl _ V1).turn hg2 (by intro b e; cases e; omega)).turn hg3 (by intro b e; cases e; omega)).turn hg4 (by intro b e; cases e; omega)
  have hbod4 := Bods.keeps hbod hk
  have hBV : B + 1 ≤ V4.heap.size := by have := hR4.size; omega
  have huV4 := hR4.up HU.out.1 HU.out.2
  obtain ⟨N, hNN⟩ : ∃ N, V4.heap.size = N := ⟨_, rfl⟩
  clear hR1 hR2 hR3 hR4 hg1 hg2 hg3 hg4 hbod KS KD KA KR HR hk
  go_wp2_with fail
  go_at_call 22
  refine forgetC (fun Y => Up w Y ∧ Box Y N #[.slice ba s.bodies.length bc, .int .i64 s.home] 34 ∧ Box Y (N + 1) #[.int .i64 (l1), .int .i64 (l2), .int .i64 (h1), .int .i64 (h2), .int .i64 (g)] 54 ∧ Box Y (N + 1 + 1) #[.int .i64 (x0), .int .i64 (x1), .int .i64 (y0), .int .i64 (y1)] 38 ∧ Bods (fun b => W0.heap.size ≤ b ∧ b < N) Y (.slice ba s.bodies.length bc) s.bodies)
    ⟨(by repeat (first | with_reducible exact huV4 | with_reducible exact Up.refl _ | with_reducible apply Up.ext | with_reducible apply Up.alloc | with_reducible apply Up.drew | (with_reducible refine Up.setCell ?_ (by simp only; omega) _))), by rw [← hNN]; exact (by repeat (first | exact Box.mk rfl | (refine Box.mk ?_; simp; done) | apply Box.ext | apply Box.drew | apply Box.alloc | apply Box.two1 | (refine Box.other ?_ (by omega) _ _))), by rw [← hNN]; exact (by repeat (first | exact Box.mk rfl | (refine Box.mk ?_; simp; done) | apply Box.ext | apply Box.drew | apply Box.alloc | apply Box.two1 | (refine Box.other ?_ (by omega) _ _))), by rw [← hNN]; exact (by repeat (first | exact Box.mk rfl | (refine Box.mk ?_; simp; done) | apply Box.ext | apply Box.drew | apply Box.alloc | apply Box.two1 | (refine Box.other ?_ (by omega) _ _))), (Bods.mono (K' := fun b => W0.heap.size ≤ b ∧ b < N) hbod4 fun b hb hK => ⟨hK, by omega⟩).keeps (Up.keeps (by repeat (first | with_reducible exact Up.refl _ | with_reducible apply Up.plus | apply Up.ext | apply Up.alloc | apply Up.drew | (refine Up.setCell ?_ (by simp; try omega) _))) _)⟩ ?_
  rintro W5 ⟨hu5, bw, bd, ba5, hbod5⟩
  have hBN : w.heap.size ≤ N := by omega
  clear huV4 hbod4 hNN hBV
  -- the plain values
  obtain ⟨⟨p1, p2, p3, p4⟩, ⟨q1, q2, q3, q4⟩, op, oq, E1, E2, E3, E4⟩ := mirror_facts hsm (l := (l1, l2)) (h := (h1, h2)) (g := g) (t := t) (a := (x0, x1, y0, y1)) hl hh (by omega) (by omega) ⟨⟨by simp only [arX]; omega, by simp only [arX]; omega, by simp only [arX]; omega⟩, by simp only [arY]; omega, by simp only [arY]; omega, by simp only [arY]; omega⟩
  have KT := hide (fun W => show Gives Try.prog 24 #[.agg #[.int .i64 (x0), .int .i64 (x1), .int .i64 (y0), .int .i64 (y1)]] W (.agg #[.int .i64 ((-y1)), .int .i64 ((-y0)), .int .i64 (x0), .int .i64 (x1)]) from turn_any (x0, x1, y0, y1) ⟨⟨by simp only [arX]; omega, by simp only [arX]; omega, by simp only [arX]; omega⟩, by simp only [arY]; omega, by simp only [arY]; omega, by simp only [arY]; omega⟩ W)
  have KTP := hide (fun W => show Gives Try.prog 24 #[.agg #[.int .i64 (p1), .int .i64 (p2), .int .i64 (p3), .int .i64 (p4)]] W (.agg #[.int .i64 ((-p4)), .int .i64 ((-p3)), .int .i64 (p1), .int .i64 (p2)]) from turn_any (p1, p2, p3, p4) op W)
  have hqb := hide oq.bds
  have KX := hide (fun W => othersign_any x0 x1 (by omega) (by omega) (by omega) (by omega) W)
  have KQ := hide (fun W => othersign_any q1 q2 (by have := hqb.out.1; simp only at this; omega) (by have := hqb.out.1; simp only at this; omega) (by have := hqb.out.1; simp only at this; omega) (by have := hqb.out.1; simp only at this; omega) W)
  have KO1 := hide (fun W' (hu : Up W5 W') => show Gives Try.prog 22 #[.agg #[.slice ba s.bodies.length bc, .int .i64 s.home], .agg #[.int .i64 (l1), .int .i64 (l2), .int .i64 (h1), .int .i64 (h2), .int .i64 (g)], .int .i64 t, .agg #[.int .i64 (x0), .int .i64 (x1), .int .i64 (y0), .int .i64 (y1)]] W' (.tuple #[.agg #[.int .i64 (p1), .int .i64 (p2), .int .i64 (p3), .int .i64 (p4)], .int .i64 0]) from over_at (hbod5.keeps (hu.keeps _)) hhome E1)
  have KO2 := hide (fun (gg cap : Nat) W' (hb : Bods (fun _ => True) W' (.slice (some ⟨gg, 0, none⟩) s.bodies.length cap) (s.bodies.map turnB)) => show Gives Try.prog 22 #[.agg #[.slice (some ⟨gg, 0, none⟩) s.bodies.length cap, .int .i64 s.home], .agg #[.int .i64 (l1), .int .i64 (l2), .int .i64 (h1), .int .i64 (h2), .int .i64 (g)], .int .i64 t, .agg #[.int .i64 ((-y1)), .int .i64 ((-y0)), .int .i64 (x0), .int .i64 (x1)]] W' (.tuple #[.agg #[.int .i64 ((-p4)), .int .i64 ((-p3)), .int .i64 (p1), .int .i64 (p2)], .int .i64 0]) from over_at hb hhome E2)
  have KO3 := hide (fun W' (hb : Bods (fun b => W0.heap.size ≤ b ∧ b < N) W' (.slice ba s.bodies.length bc) s.bodies) => show Gives Try.prog 22 #[.agg #[.slice ba s.bodies.length bc, .int .i64 s.home], .agg #[.int .i64 (l1), .int .i64 (l2), .int .i64 (0), .int .i64 (0), .int .i64 (g)], .int .i64 t, .agg #[.int .i64 (x0), .int .i64 (x1), .int .i64 (y0), .int .i64 (y1)]] W' (.tuple #[.agg #[.int .i64 (q1), .int .i64 (q2), .int .i64 (q3), .int .i64 (q4)], .int .i64 0]) from over_at hb hhome E3)
  have KO4 := hide (fun (gg cap : Nat) W' (hb : Bods (fun _ => True) W' (.slice (some ⟨gg, 0, none⟩) s.bodies.length cap) (s.bodies.map mirB)) => show Gives Try.prog 22 #[.agg #[.slice (some ⟨gg, 0, none⟩) s.bodies.length cap, .int .i64 s.home], .agg #[.int .i64 (l1), .int .i64 (l2), .int .i64 (0), .int .i64 (0), .int .i64 (g)], .int .i64 t, .agg #[.int .i64 ((-x1)), .int .i64 ((-x0)), .int .i64 (y0), .int .i64 (y1)]] W' (.tuple #[.agg #[.int .i64 ((-q2)), .int .i64 ((-q1)), .int .i64 (q3), .int .i64 (q4)], .int .i64 0]) from over_at hb hhome E4)
  have HSM := hide hsm
  have HB5 := hide (And.intro hu5 (And.intro bw (And.intro bd (And.intro ba5 hbod5))))
  clear E1 E2 E3 E4 op oq hu5 bw bd ba5 hbod5 hsm
  refine (KO1.out _ (Up.refl _)).mono ?_
  intro p0
  go_wp2_with fail
  obtain ⟨Q8, hQ8⟩ : ∃ T, W5.heap.size + p0.os.size = T := ⟨_, rfl⟩
  rw [hQ8]
  refine forgetW (fun Y => Up w Y ∧ Box Y N #[.slice ba s.bodies.length bc, .int .i64 s.home] 34 ∧ Box Y (N + 1) #[.int .i64 (l1), .int .i64 (l2), .int .i64 (h1), .int .i64 (h2), .int .i64 (g)] 54 ∧ Box Y (N + 1 + 1) #[.int .i64 (x0), .int .i64 (x1), .int .i64 (y0), .int .i64 (y1)] 38 ∧ Box Y Q8 #[.int .i64 (p1), .int .i64 (p2), .int .i64 (p3), .int .i64 (p4)] 38 ∧ Bods (fun b => W0.heap.size ≤ b ∧ b < N) Y (.slice ba s.bodies.length bc) s.bodies) ⟨?_, ?_, ?_, ?_, ?_, ?_⟩ ?_
  · exact (by repeat (first | with_reducible exact HB5.out.1 | with_reducible exact Up.refl _ | with_reducible apply Up.ext | with_reducible apply Up.alloc | with_reducible apply Up.drew | (with_reducible refine Up.setCell ?_ (by simp only; omega) _)))
  · exact (by repeat (first | with_reducible exact HB5.out.2.1 | with_reducible apply Box.ext | with_reducible apply Box.alloc | with_reducible apply Box.drew | (with_reducible refine Box.other ?_ (by omega) _ _)))
  · exact (by repeat (first | with_reducible exact HB5.out.2.2.1 | with_reducible apply Box.ext | with_reducible apply Box.alloc | with_reducible apply Box.drew | (with_reducible refine Box.other ?_ (by omega) _ _)))
  · exact (by repeat (first | with_reducible exact HB5.out.2.2.2.1 | with_reducible apply Box.ext | with_reducible apply Box.alloc | with_reducible apply Box.drew | (with_reducible refine Box.other ?_ (by omega) _ _)))
  · rw [← hQ8]; exact (by repeat (first | exact Box.mk rfl | (refine Box.mk ?_; simp; done) | apply Box.ext | apply Box.alloc))
  · exact HB5.out.2.2.2.2.keeps (Up.keeps (by repeat (first | with_reducible exact Up.refl _ | with_reducible apply Up.plus | apply Up.ext | apply Up.alloc | apply Up.drew | (refine Up.setCell ?_ (by simp; try omega) _))) _)
  rintro Z1 ⟨hu, bw, bd, ba5, b8, hbod⟩
  have hQ8l : N + 1 + 1 < Q8 := by have := HB5.out.2.2.2.1.lt; omega
  clear HB5 hQ8 KO1
  have cw0 := bw.cell 0 rfl
  have cw1 := bw.cell 1 rfl
  have lcw := bw.lt
  have cd0 := bd.cell 0 rfl
  have cd1 := bd.cell 1 rfl
  have cd2 := bd.cell 2 rfl
  have cd3 := bd.cell 3 rfl
  have cd4 := bd.cell 4 rfl
  have lcd := bd.lt
  have ca0 := ba5.cell 0 rfl
  have ca1 := ba5.cell 1 rfl
  have ca2 := ba5.cell 2 rfl
  have ca3 := ba5.cell 3 rfl
  have lca := ba5.lt
  have KM := hide (fun W' (hu : Up Z1 W') => turned_any (home := s.home) (hbod.keeps (hu.keeps _)) HSM.out.bods HSM.out.num)
  have HZ1 := hide (And.intro hu (And.intro bw (And.intro bd (And.intro ba5 (And.intro b8 hbod)))))
  clear hu bw bd ba5 b8 hbod
  refine wp_region_floatz (al := [(10, 10, #[.int .i64 (0), .int .i64 (0), .int .i64 (0), .int .i64 (0)], 38)]) (mv := fun k => k == 1 || k == 6) 9 [11, 12] [0, 2, 3, 4, 1, 5, 6, 7, 8, 9] (by kernel_rfl) (by kernel_rfl) rfl (fun _ => rfl) (fun _ _ _ _ h => h) (makes1 ⟨_, rfl, rfl, fun _ => rfl, fun _ _ => by simp [go_sem]⟩) (cls_ext _) (by first | exact drew_in2 _ _ | exact drew_in _) (Nat.le_refl _) ?_
  simp only [withOps, List.filterMap_cons, List.filterMap_nil, List.getElem?_toArray, List.getElem?_cons_zero, List.getElem?_cons_succ, Option.map_some]
  (repeat (first | (apply walkF_pure (base := fun p : Ext => ext _ p) rfl rfl rfl (by kernel_rfl); · (intro px K hK; go_big_quiet_op; first | exact hK | (apply Exists.intro; refine ⟨fun _ => ?_, ?_⟩; (· (fail)); exact hK))) | (apply walkF_skip rfl; simp only [Act.put, List.setIfInBounds_toArray, List.set_cons_zero, List.set_cons_succ])))
  refine walkF_call _ _ (own_call KM.out) (fun _ _ => ownD_cls _ _ _ _ _) rfl rfl (fun _ => by simp [go_sem]) ?_
  rintro _ ⟨gg, cap, rfl⟩
  simp only [Act.put, List.setIfInBounds_toArray, List.set_cons_zero, List.set_cons_succ]
  (repeat (first | (apply walkF_pure (base := fun p : Ext => ext _ p) rfl rfl rfl (by kernel_rfl); · (intro px K hK; go_big_quiet_op; first | exact hK | (apply Exists.intro; refine ⟨fun _ => ?_, ?_⟩; (· ((go_at_call 24; with_reducible exact Gives.inFloat (KT.out _)))); exact hK))) | (apply walkF_skip rfl; simp only [Act.put, List.setIfInBounds_toArray, List.set_cons_zero, List.set_cons_succ])))
  refine walkF_call _ _ (over_call (KO2.out gg cap)) (fun _ _ => ownD_cls _ _ _ _ _) rfl rfl (fun _ => by simp [go_sem]) ?_
  rintro _ rfl
  simp only [Act.put, List.setIfInBounds_toArray, List.set_cons_zero, List.set_cons_succ]
  (repeat (first | (apply walkF_pure (base := fun p : Ext => ext _ p) rfl rfl rfl (by kernel_rfl); · (intro px K hK; go_big_quiet_op; first | exact hK | (apply Exists.intro; refine ⟨fun _ => ?_, ?_⟩; (· (fail)); exact hK))) | (apply walkF_skip rfl; simp only [Act.put, List.setIfInBounds_toArray, List.set_cons_zero, List.set_cons_succ])))
  refine walkF_lazy (.int .i64 0) rfl rfl (fun _ => by simp [go_sem]) ?_
  simp only [Act.put, List.setIfInBounds_toArray, List.set_cons_zero, List.set_cons_succ]
  refine walkF_nil (end1 (fun Q10 U hq hU bq => ?_))
  simp only [Act.put, List.setIfInBounds_toArray, List.set_cons_zero, List.set_cons_succ]
  (try simp only [List.filterMap_cons, List.filterMap_nil, List.getElem?_toArray, List.getElem?_cons_zero, List.getElem?_cons_succ])
  have hU1 : Up Z1 U := hU.1
  have HQ := hide (And.intro (HZ1.out.1.trans hU1) (And.intro (HZ1.out.2.1.up hU1) (And.intro (HZ1.out.2.2.1.up hU1) (And.intro (HZ1.out.2.2.2.1.up hU1) (And.intro (HZ1.out.2.2.2.2.1.up hU1) (And.intro bq (HZ1.out.2.2.2.2.2.keeps (hU1.keeps _))))))))
  have m8 : Q8 ≠ Q10 := by have := HZ1.out.2.2.2.2.1.lt; omega
  have m1 : N ≠ Q10 := by have := HZ1.out.2.2.2.2.1.lt; omega
  have m2 : N + 1 ≠ Q10 := by have := HZ1.out.2.2.2.2.1.lt; omega
  have m3 : N + 1 + 1 ≠ Q10 := by have := HZ1.out.2.2.2.2.1.lt; omega
  have n1 : N ≠ Q8 := by omega
  have n2 : N + 1 ≠ Q8 := by omega
  have n3 : N + 1 + 1 ≠ Q8 := by omega
  have hQ10l : N + 1 + 1 < Q10 := by have := HZ1.out.2.2.2.2.1.lt; omega
  have cq0 := bq.cell 0 rfl
  have cq1 := bq.cell 1 rfl
  have cq2 := bq.cell 2 rfl
  have cq3 := bq.cell 3 rfl
  have lcq := bq.lt
  have fcq0 := bq.frozen 0
  have fcq1 := bq.frozen 1
  have fcq2 := bq.frozen 2
  have fcq3 := bq.frozen 3
  clear cw0 cw1 lcw cd0 cd1 cd2 cd3 cd4 lcd ca0 ca1 ca2 ca3 lca hU hU1 bq HZ1 KM hq
  go_wp2_with fail
  refine forgetW (fun Y => Up w Y ∧ Box Y N #[.slice ba s.bodies.length bc, .int .i64 s.home] 34 ∧ Box Y (N + 1) #[.int .i64 (l1), .int .i64 (l2), .int .i64 (h1), .int .i64 (h2), .int .i64 (g)] 54 ∧ Box Y (N + 1 + 1) #[.int .i64 (x0), .int .i64 (x1), .int .i64 (y0), .int .i64 (y1)] 38 ∧ Box Y Q8 #[.int .i64 (p1), .int .i64 (p2), .int .i64 (p3), .int .i64 (p4)] 38 ∧ Box Y Q10 #[.int .i64 ((-p4)), .int .i64 ((-p3)), .int .i64 (p1), .int .i64 (p2)] 38 ∧ Bods (fun b => W0.heap.size ≤ b ∧ b < N) Y (.slice ba s.bodies.length bc) s.bodies) ⟨?_, ?_, ?_, ?_, ?_, ?_, ?_⟩ ?_
  · exact (by repeat (first | with_reducible exact HQ.out.1 | with_reducible exact Up.refl _ | with_reducible apply Up.ext | with_reducible apply Up.alloc | with_reducible apply Up.drew | (with_reducible refine Up.setCell ?_ (by simp only; omega) _)))
  · exact (by repeat (first | with_reducible exact HQ.out.2.1 | with_reducible apply Box.ext | with_reducible apply Box.alloc | with_reducible apply Box.drew | (with_reducible refine Box.other ?_ (by omega) _ _)))
  · exact (by repeat (first | with_reducible exact HQ.out.2.2.1 | with_reducible apply Box.ext | with_reducible apply Box.alloc | with_reducible apply Box.drew | (with_reducible refine Box.other ?_ (by omega) _ _)))
  · exact (by repeat (first | with_reducible exact HQ.out.2.2.2.1 | with_reducible apply Box.ext | with_reducible apply Box.alloc | with_reducible apply Box.drew | (with_reducible refine Box.other ?_ (by omega) _ _)))
  · exact (by repeat (first | with_reducible exact HQ.out.2.2.2.2.1 | with_reducible apply Box.ext | with_reducible apply Box.alloc | with_reducible apply Box.drew | (with_reducible refine Box.other ?_ (by omega) _ _)))
  · exact (by (repeat (first | with_reducible apply Box.ext | with_reducible apply Box.alloc | with_reducible apply Box.drew)); exact ((((HQ.out.2.2.2.2.2.1.set 0 (.int .i64 (-p4))).set 1 (.int .i64 (-p3))).set 2 (.int .i64 (p1))).set 3 (.int .i64 (p2))))
  · exact Bods.keeps HQ.out.2.2.2.2.2.2 (by repeat (first | with_reducible exact Keeps.refl _ _ | with_reducible apply Keeps.ext | with_reducible apply Keeps.alloc | with_reducible apply Keeps.drew | (with_reducible refine Keeps.set ?_ (by omega) _ _)))
  rintro Z2 ⟨hu, bw, bd, ba5, b8, b10, hbod⟩
  clear HQ cq0 cq1 cq2 cq3 lcq fcq0 fcq1 fcq2 fcq3
  have c80 := b8.cell 0 rfl
  have c81 := b8.cell 1 rfl
  have c82 := b8.cell 2 rfl
  have c83 := b8.cell 3 rfl
  have lc8 := b8.lt
  have c100 := b10.cell 0 rfl
  have c101 := b10.cell 1 rfl
  have c102 := b10.cell 2 rfl
  have c103 := b10.cell 3 rfl
  have lc10 := b10.lt
  replace hu := hide hu
  replace bw := hide bw
  replace bd := hide bd
  replace ba5 := hide ba5
  replace b8 := hide b8
  replace b10 := hide b10
  replace hbod := hide hbod
  ((first | with_reducible refine wp_region_ext2 (by kernel_rfl) (by kernel_rfl) ?_ | refine wp_region_ext (by kernel_rfl) (by kernel_rfl) ?_); (repeat (go_big_quiet_step ((go_at_call 24; with_reducible exact Gives.inRegion (KTP.out _))))); refine wpQuiet_nil ?_; intro _ hw'; obtain ⟨_, hw''⟩ := hw'; subst hw'')
  clear c80 c81 c82 c83 lc8 c100 c101 c102 c103 lc10
  refine forgetW (fun Y => Up w Y ∧ Box Y N #[.slice ba s.bodies.length bc, .int .i64 s.home] 34 ∧ Box Y (N + 1) #[.int .i64 (l1), .int .i64 (l2), .int .i64 (h1), .int .i64 (h2), .int .i64 (g)] 54 ∧ Box Y (N + 1 + 1) #[.int .i64 (x0), .int .i64 (x1), .int .i64 (y0), .int .i64 (y1)] 38 ∧ Box Y Q8 #[.int .i64 (p1), .int .i64 (p2), .int .i64 (p3), .int .i64 (p4)] 38 ∧ Box Y Q10 #[.int .i64 ((-p4)), .int .i64 ((-p3)), .int .i64 (p1), .int .i64 (p2)] 38 ∧ Bods (fun b => W0.heap.size ≤ b ∧ b < N) Y (.slice ba s.bodies.length bc) s.bodies) ⟨?_, ?_, ?_, ?_, ?_, ?_, ?_⟩ ?_
  · exact (by repeat (first | with_reducible exact hu.out | with_reducible exact Up.refl _ | with_reducible apply Up.ext | with_reducible apply Up.alloc | with_reducible apply Up.drew | (with_reducible refine Up.setCell ?_ (by simp only; omega) _)))
  · exact (by repeat (first | with_reducible exact bw.out | with_reducible apply Box.ext | with_reducible apply Box.alloc | with_reducible apply Box.drew | (with_reducible refine Box.other ?_ (by omega) _ _)))
  · exact (by repeat (first | with_reducible exact bd.out | with_reducible apply Box.ext | with_reducible apply Box.alloc | with_reducible apply Box.drew | (with_reducible refine Box.other ?_ (by omega) _ _)))
  · exact (by repeat (first | with_reducible exact ba5.out | with_reducible apply Box.ext | with_reducible apply Box.alloc | with_reducible apply Box.drew | (with_reducible refine Box.other ?_ (by omega) _ _)))
  · exact (by repeat (first | with_reducible exact b8.out | with_reducible apply Box.ext | with_reducible apply Box.alloc | with_reducible apply Box.drew | (with_reducible refine Box.other ?_ (by omega) _ _)))
  · exact (by repeat (first | with_reducible exact b10.out | with_reducible apply Box.ext | with_reducible apply Box.alloc | with_reducible apply Box.drew | (with_reducible refine Box.other ?_ (by omega) _ _)))
  · exact Bods.keeps hbod.out (by repeat (first | with_reducible exact Keeps.refl _ _ | with_reducible apply Keeps.ext | with_reducible apply Keeps.alloc | with_reducible apply Keeps.drew | (with_reducible refine Keeps.set ?_ (by omega) _ _)))
  rintro Z3 ⟨hu, bw, bd, ba5, b8, b10, hbod⟩
  have cw0 := bw.cell 0 rfl
  have cw1 := bw.cell 1 rfl
  have lcw := bw.lt
  have cd0 := bd.cell 0 rfl
  have cd1 := bd.cell 1 rfl
  have cd2 := bd.cell 2 rfl
  have cd3 := bd.cell 3 rfl
  have cd4 := bd.cell 4 rfl
  have lcd := bd.lt
  have fcd0 := bd.frozen 0
  have fcd1 := bd.frozen 1
  have fcd2 := bd.frozen 2
  have fcd3 := bd.frozen 3
  have fcd4 := bd.frozen 4
  have ca0 := ba5.cell 0 rfl
  have ca1 := ba5.cell 1 rfl
  have ca2 := ba5.cell 2 rfl
  have ca3 := ba5.cell 3 rfl
  have lca := ba5.lt
  replace hu := hide hu
  replace bw := hide bw
  replace bd := hide bd
  replace ba5 := hide ba5
  replace b8 := hide b8
  replace b10 := hide b10
  replace hbod := hide hbod
  go_wp2_with (go_at_call 25; (with_reducible refine (xof_any _ _ _).mono ?_); intro _)
  go_at_call 22
  refine forgetC (fun Y => Up w Y ∧ Box Y N #[.slice ba s.bodies.length bc, .int .i64 s.home] 34 ∧ Box Y (N + 1) #[.int .i64 (l1), .int .i64 (l2), .int .i64 (0), .int .i64 (0), .int .i64 (g)] 54 ∧ Box Y (N + 1 + 1) #[.int .i64 (x0), .int .i64 (x1), .int .i64 (y0), .int .i64 (y1)] 38 ∧ Box Y Q8 #[.int .i64 (p1), .int .i64 (p2), .int .i64 (p3), .int .i64 (p4)] 38 ∧ Box Y Q10 #[.int .i64 ((-p4)), .int .i64 ((-p3)), .int .i64 (p1), .int .i64 (p2)] 38 ∧ Bods (fun b => W0.heap.size ≤ b ∧ b < N) Y (.slice ba s.bodies.length bc) s.bodies) ⟨?_, ?_, ?_, ?_, ?_, ?_, ?_⟩ ?_
  · exact (by repeat (first | with_reducible exact hu.out | with_reducible exact Up.refl _ | with_reducible apply Up.ext | with_reducible apply Up.alloc | with_reducible apply Up.drew | (with_reducible refine Up.setCell ?_ (by simp only; omega) _)))
  · exact (by repeat (first | with_reducible exact bw.out | with_reducible apply Box.ext | with_reducible apply Box.alloc | with_reducible apply Box.drew | (with_reducible refine Box.other ?_ (by omega) _ _)))
  · exact (by (repeat (first | with_reducible apply Box.ext | with_reducible apply Box.alloc | with_reducible apply Box.drew)); exact ((bd.out.set 2 (.int .i64 (0))).set 3 (.int .i64 (0))))
  · exact (by repeat (first | with_reducible exact ba5.out | with_reducible apply Box.ext | with_reducible apply Box.alloc | with_reducible apply Box.drew | (with_reducible refine Box.other ?_ (by omega) _ _)))
  · exact (by repeat (first | with_reducible exact b8.out | with_reducible apply Box.ext | with_reducible apply Box.alloc | with_reducible apply Box.drew | (with_reducible refine Box.other ?_ (by omega) _ _)))
  · exact (by repeat (first | with_reducible exact b10.out | with_reducible apply Box.ext | with_reducible apply Box.alloc | with_reducible apply Box.drew | (with_reducible refine Box.other ?_ (by omega) _ _)))
  · exact Bods.keeps hbod.out (by repeat (first | with_reducible exact Keeps.refl _ _ | with_reducible apply Keeps.ext | with_reducible apply Keeps.alloc | with_reducible apply Keeps.drew | (with_reducible refine Keeps.set ?_ (by omega) _ _)))
  rintro Z4 ⟨hu, bw, bd, ba5, b8, b10, hbod⟩
  clear cw0 cw1 lcw cd0 cd1 cd2 cd3 cd4 lcd fcd0 fcd1 fcd2 fcd3 fcd4 ca0 ca1 ca2 ca3 lca
  refine (KO3.out _ hbod).mono ?_
  intro p4'
  have c80 := b8.cell 0 rfl
  have c81 := b8.cell 1 rfl
  have c82 := b8.cell 2 rfl
  have c83 := b8.cell 3 rfl
  have lc8 := b8.lt
  have fc80 := b8.frozen 0
  have fc81 := b8.frozen 1
  have fc82 := b8.frozen 2
  have fc83 := b8.frozen 3
  replace hu := hide hu
  replace bw := hide bw
  replace bd := hide bd
  replace ba5 := hide ba5
  replace b8 := hide b8
  replace b10 := hide b10
  replace hbod := hide hbod
  go_wp2_with fail
  refine forgetW (fun Y => Up w Y ∧ Box Y N #[.slice ba s.bodies.length bc, .int .i64 s.home] 34 ∧ Box Y (N + 1) #[.int .i64 (l1), .int .i64 (l2), .int .i64 (0), .int .i64 (0), .int .i64 (g)] 54 ∧ Box Y (N + 1 + 1) #[.int .i64 (x0), .int .i64 (x1), .int .i64 (y0), .int .i64 (y1)] 38 ∧ Box Y Q8 #[.int .i64 (q1), .int .i64 (q2), .int .i64 (q3), .int .i64 (q4)] 38 ∧ Box Y Q10 #[.int .i64 ((-p4)), .int .i64 ((-p3)), .int .i64 (p1), .int .i64 (p2)] 38 ∧ Bods (fun b => W0.heap.size ≤ b ∧ b < N) Y (.slice ba s.bodies.length bc) s.bodies) ⟨?_, ?_, ?_, ?_, ?_, ?_, ?_⟩ ?_
  · exact (by repeat (first | with_reducible exact hu.out | with_reducible exact Up.refl _ | with_reducible apply Up.ext | with_reducible apply Up.alloc | with_reducible apply Up.drew | (with_reducible refine Up.setCell ?_ (by simp only; omega) _)))
  · exact (by repeat (first | with_reducible exact bw.out | with_reducible apply Box.ext | with_reducible apply Box.alloc | with_reducible apply Box.drew | (with_reducible refine Box.other ?_ (by omega) _ _)))
  · exact (by repeat (first | with_reducible exact bd.out | with_reducible apply Box.ext | with_reducible apply Box.alloc | with_reducible apply Box.drew | (with_reducible refine Box.other ?_ (by omega) _ _)))
  · exact (by repeat (first | with_reducible exact ba5.out | with_reducible apply Box.ext | with_reducible apply Box.alloc | with_reducible apply Box.drew | (with_reducible refine Box.other ?_ (by omega) _ _)))
  · exact (by (repeat (first | with_reducible apply Box.ext | with_reducible apply Box.alloc | with_reducible apply Box.drew)); exact ((((b8.out.set 0 (.int .i64 (q1))).set 1 (.int .i64 (q2))).set 2 (.int .i64 (q3))).set 3 (.int .i64 (q4))))
  · exact (by repeat (first | with_reducible exact b10.out | with_reducible apply Box.ext | with_reducible apply Box.alloc | with_reducible apply Box.drew | (with_reducible refine Box.other ?_ (by omega) _ _)))
  · exact Bods.keeps hbod.out (by repeat (first | with_reducible exact Keeps.refl _ _ | with_reducible apply Keeps.ext | with_reducible apply Keeps.alloc | with_reducible apply Keeps.drew | (with_reducible refine Keeps.set ?_ (by omega) _ _)))
  rintro Z5 ⟨hu, bw, bd, ba5, b8, b10, hbod⟩
  clear c80 c81 c82 c83 lc8 fc80 fc81 fc82 fc83
  have cw0 := bw.cell 0 rfl
  have cw1 := bw.cell 1 rfl
  have lcw := bw.lt
  have cd0 := bd.cell 0 rfl
  have cd1 := bd.cell 1 rfl
  have cd2 := bd.cell 2 rfl
  have cd3 := bd.cell 3 rfl
  have cd4 := bd.cell 4 rfl
  have lcd := bd.lt
  have ca0 := ba5.cell 0 rfl
  have ca1 := ba5.cell 1 rfl
  have ca2 := ba5.cell 2 rfl
  have ca3 := ba5.cell 3 rfl
  have lca := ba5.lt
  have KMm := hide (fun W' (hu : Up Z5 W') => mirrored_any (home := s.home) (hbod.keeps (hu.keeps _)) HSM.out.bods HSM.out.num)
  have lbase := b10.lt
  replace hu := hide hu
  replace bw := hide bw
  replace bd := hide bd
  replace ba5 := hide ba5
  replace b8 := hide b8
  replace b10 := hide b10
  replace hbod := hide hbod
  refine wp_region_floatz (al := []) (mv := fun k => k == 1 || k == 10) 13 [14, 15] [0, 2, 3, 4, 5, 7, 8, 1, 6, 9, 10, 11, 12, 13] (by kernel_rfl) (by kernel_rfl) rfl (fun _ => rfl) (fun _ _ _ _ h => h) makes0 (cls_ext _) (by first | exact drew_in2 _ _ | exact drew_in _) (Nat.le_refl _) ?_
  simp only [withOps, List.filterMap_cons, List.filterMap_nil, List.getElem?_toArray, List.getElem?_cons_zero, List.getElem?_cons_succ, Option.map_some]
  (repeat (first | (apply walkF_pure (base := fun p : Ext => ext _ p) rfl rfl rfl (by kernel_rfl); · (intro px K hK; go_big_quiet_op; first | exact hK | (apply Exists.intro; refine ⟨fun _ => ?_, ?_⟩; (· (fail)); exact hK))) | (apply walkF_skip rfl; simp only [Act.put, List.setIfInBounds_toArray, List.set_cons_zero, List.set_cons_succ])))
  refine walkF_call _ _ (own_call KMm.out) (fun _ _ => ownD_cls _ _ _ _ _) rfl rfl (fun _ => by simp [go_sem]) ?_
  rintro _ ⟨gg2, cap2, rfl⟩
  simp only [Act.put, List.setIfInBounds_toArray, List.set_cons_zero, List.set_cons_succ]
  (repeat (first | (apply walkF_pure (base := fun p : Ext => ext _ p) rfl rfl rfl (by kernel_rfl); · (intro px K hK; go_big_quiet_op; first | exact hK | (apply Exists.intro; refine ⟨fun _ => ?_, ?_⟩; (· ((go_at_call 27; with_reducible exact Gives.inFloat (KX.out _)))); exact hK))) | (apply walkF_skip rfl; simp only [Act.put, List.setIfInBounds_toArray, List.set_cons_zero, List.set_cons_succ])))
  refine walkF_call _ _ (over_call (KO4.out gg2 cap2)) (fun _ _ => ownD_cls _ _ _ _ _) rfl rfl (fun _ => by simp [go_sem]) ?_
  rintro _ rfl
  simp only [Act.put, List.setIfInBounds_toArray, List.set_cons_zero, List.set_cons_succ]
  (repeat (first | (apply walkF_pure (base := fun p : Ext => ext _ p) rfl rfl rfl (by kernel_rfl); · (intro px K hK; go_big_quiet_op; first | exact hK | (apply Exists.intro; refine ⟨fun _ => ?_, ?_⟩; (· (fail)); exact hK))) | (apply walkF_skip rfl; simp only [Act.put, List.setIfInBounds_toArray, List.set_cons_zero, List.set_cons_succ])))
  refine walkF_lazy (.int .i64 0) rfl rfl (fun _ => by simp [go_sem]) ?_
  simp only [Act.put, List.setIfInBounds_toArray, List.set_cons_zero, List.set_cons_succ]
  refine walkF_nil (end0 (fun U hU => ?_))
  (try simp only [List.filterMap_cons, List.filterMap_nil, List.getElem?_toArray, List.getElem?_cons_zero, List.getElem?_cons_succ])
  have hU1 : Up Z5 U := hU.1
  have ubw := hide (bw.out.up hU1)
  have ubd := hide (bd.out.up hU1)
  have uba5 := hide (ba5.out.up hU1)
  have ub8 := hide (b8.out.up hU1)
  have ub10 := hide (b10.out.up hU1)
  have uhu := hide (hu.out.trans hU1)
  have uhbod := hide (hbod.out.keeps (hU1.keeps _))
  clear cw0 cw1 lcw cd0 cd1 cd2 cd3 cd4 lcd ca0 ca1 ca2 ca3 lca hU hU1 hu hbod bw bd ba5 b8 b10 KMm
  have c100 := ub10.out.cell 0 rfl
  have c101 := ub10.out.cell 1 rfl
  have c102 := ub10.out.cell 2 rfl
  have c103 := ub10.out.cell 3 rfl
  have lc10 := ub10.out.lt
  have fc100 := ub10.out.frozen 0
  have fc101 := ub10.out.frozen 1
  have fc102 := ub10.out.frozen 2
  have fc103 := ub10.out.frozen 3
  go_wp2_with fail
  refine forgetW (fun Y => Up w Y ∧ Box Y Q8 #[.int .i64 (q1), .int .i64 (q2), .int .i64 (q3), .int .i64 (q4)] 38 ∧ Box Y Q10 #[.int .i64 ((-q2)), .int .i64 ((-q1)), .int .i64 (q3), .int .i64 (q4)] 38 ∧ Bods (fun b => W0.heap.size ≤ b ∧ b < N) Y (.slice ba s.bodies.length bc) s.bodies) ⟨?_, ?_, ?_, ?_⟩ ?_
  · exact (by repeat (first | with_reducible exact uhu.out | with_reducible exact Up.refl _ | with_reducible apply Up.ext | with_reducible apply Up.alloc | with_reducible apply Up.drew | (with_reducible refine Up.setCell ?_ (by simp only; omega) _)))
  · exact (by repeat (first | with_reducible exact ub8.out | with_reducible apply Box.ext | with_reducible apply Box.alloc | with_reducible apply Box.drew | (with_reducible refine Box.other ?_ (by omega) _ _)))
  · exact (by (repeat (first | with_reducible apply Box.ext | with_reducible apply Box.alloc | with_reducible apply Box.drew)); exact ((((ub10.out.set 0 (.int .i64 (-q2))).set 1 (.int .i64 (-q1))).set 2 (.int .i64 (q3))).set 3 (.int .i64 (q4))))
  · exact Bods.keeps uhbod.out (by repeat (first | with_reducible exact Keeps.refl _ _ | with_reducible apply Keeps.ext | with_reducible apply Keeps.alloc | with_reducible apply Keeps.drew | (with_reducible refine Keeps.set ?_ (by omega) _ _)))
  rintro Z6 ⟨hu, b8, b10, hbod⟩
  clear c100 c101 c102 c103 lc10 fc100 fc101 fc102 fc103
  have c80 := b8.cell 0 rfl
  have c81 := b8.cell 1 rfl
  have c82 := b8.cell 2 rfl
  have c83 := b8.cell 3 rfl
  have lc8 := b8.lt
  have c100 := b10.cell 0 rfl
  have c101 := b10.cell 1 rfl
  have c102 := b10.cell 2 rfl
  have c103 := b10.cell 3 rfl
  have lc10 := b10.lt
  replace hu := hide hu
  replace b8 := hide b8
  replace b10 := hide b10
  replace hbod := hide hbod
  ((first | with_reducible refine wp_region_ext2 (by kernel_rfl) (by kernel_rfl) ?_ | refine wp_region_ext (by kernel_rfl) (by kernel_rfl) ?_); (repeat (go_big_quiet_step ((first | (go_at_call 27; with_reducible exact Gives.inRegion (KQ.out _)) | (go_at_call 18; with_reducible exact Gives.inRegion (awake_any _)))))); refine wpQuiet_nil ?_; intro _ hw'; obtain ⟨_, hw''⟩ := hw'; subst hw'')
  go_wp2
  go_ret
  exact ⟨rfl, (by repeat (first | with_reducible exact hu.out | with_reducible exact Up.refl _ | apply Up.ext | apply Up.alloc | apply Up.drew | (refine Up.setCell ?_ (by simp [World.setCell]; try omega) _)))⟩

set_option maxRecDepth 100000 in
theorem fmirror_lifted (os : Os) (started : os.Started) (H : Type) (enc : TypeId × Value → H) :
    ReturnsInHanded {} Try.checked os 4 .any (Rows.forceMirrorsSpec.pre6 enc Try.prog Try.f4 Rows.forceMirrorsRow.domain false) (Rows.forceMirrorsSpec.post enc Try.prog Try.f4 false true false false) := by
  refine returnsInHanded_of_change (C := Try.checked) knob_own started (by kernel_rfl) Try.func4
    (ChangeSpec.witness6 (enc := enc) (C := Try.checked) false ⟨#[], #[.slice none 0 0], []⟩ 8 (by kernel_rfl) (by kernel_rfl) (by kernel_rfl) (by kernel_rfl)) ?_
  intro W base args ds gs before hval0 hW _ _
  have hval : ∀ (j : Nat) t v, Try.f4.params[j]? = some t → args[j]? = some v → Value.okWide Try.prog W .any base t v := hval0
  have hW' := hW
  obtain ⟨p, q, hA0, hV, rfl, _, _⟩ := hW
  have hA : DataW.TrodAll enc Try.prog W 0 (fun _ => true) true Try.f4.params.toList args.toList ds p := hA0
  rw [Try.params4] at hA hval
  obtain ⟨v0, vs0, d0, ds0, p0, q0, hargs, rfl, rfl, h0, r0⟩ := trodAll_cons hA
  obtain ⟨rfl, rfl, rfl⟩ := trodAll_nil r0
  obtain rfl : args = #[v0] := by cases args; simp_all
  obtain ⟨rfl, rfl⟩ := trodVars_none hV
  have hlt0 : ∀ x ∈ p0, x.block < W.heap.size := fun x hx => hW'.lt x (by simp [hx])
  obtain ⟨hn0, shut0⟩ := open_nums (hval 0 22 v0 rfl rfl) h0 hlt0
  clear hA0 hval0
  simp only [List.append_nil] at hW'
  refine (fmirror_law v0 hn0 ).mono fun px => ?_
  exact ⟨_, rfl, post_of_below (pa := (p0 ++ [])) (pv := []) hW' (fun _ _ _ => (trodAll_cons_mk (shut_bool Try.underlying4 _) trodAll_mk0)) (fun sp hsp => (trodAll_cons_mk (shut0 _ sp (Up.below ⟨px, rfl⟩) (fun x hx => hsp x (by simp [hx]))) trodAll_mk0)) (fun _ _ => rfl) (by simp)
    (Up.below ⟨px, rfl⟩) (ok_one (by kernel_rfl) rfl (okWide_bool_mk Try.underlying4 _))⟩

theorem fmirror_holds : Rows.ForceMirrorsSaid :=
  OpenClaim.holds_of_wide 4 Try.f4 rfl rfl rfl rfl rfl rfl rfl ⟨rfl, rfl, rfl, rfl, rfl⟩ rfl rfl rfl rfl rfl (by kernel_rfl) Try.func4 (by kernel_rfl)
    (of_decide_eq_true (by kernel_rfl)) (by unfold Func.isWrapper; rw [if_neg (by decide +kernel)]; exact ⟨rfl, rfl⟩)
    (fun os started H enc _ => fmirror_lifted os started H enc)
#print axioms fmirror_holds
end Go.Proofs.Ytbcgdhldkanecaa
