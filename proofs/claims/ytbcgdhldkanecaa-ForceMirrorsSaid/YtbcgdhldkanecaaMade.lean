/- Drifts, spans, areas made of numbers; a sky made of numbers, in a world in which the ring has been asked. Conditions: how often the ring was asked. -/
import Derived.Test.YtbcgdhldkanecaaSkyOf
namespace Go.Proofs.Ytbcgdhldkanecaa
open Go.RowKit

theorem skyof_at {w : World} {sl : Value} (hN : Nums w sl) {B : Nat} (hB : w.heap.size ≤ B) {t : Int} {W W1 : World} (hu : Up w W) (hb : Box W B #[sl, .int .i64 t] 81) {n : Int} (hW : RingAt W B n W1) (hn : n + 60 ≤ 100000) :
    Calls Try.prog 19 #[.pointer (some ⟨B, 0, none⟩)] W1 fun e W' => ∃ (v : Value) (s : SkyD), e = .returned v ∧ SkyIn (fun b => W1.heap.size ≤ b) W' v s ∧ SmallSky s ∧ RingAt W B (n + 60) W' ∧ W1.grownBy W' (some B) := by
  obtain ⟨t1, h0, h1, hbW⟩ := hW.box hb
  refine (skyof_any hN hB t1 W1 (hW.up hu hB) hbW h0 (by omega)).mono ?_
  rintro e W' ⟨v, s, t', p', he, h2, h3, rfl, hs, hm⟩
  exact ⟨v, s, he, hs, hm, hW.called hb.lt h2 (by omega) p', grown_up (grown_set (grown_refl _ _) _ _) ((Up.refl _).ext _)⟩

theorem skyof_atx {w : World} {sl : Value} (hN : Nums w sl) {B : Nat} (hB : w.heap.size ≤ B) {t : Int} {W W1 : World} (hu : Up w W) (hb : Box W B #[sl, .int .i64 t] 81) {n : Int} (hW : RingAt W B n W1) (hn : n + 60 ≤ 100000) :
    Calls Try.prog 19 #[.pointer (some ⟨B, 0, none⟩)] W1 fun e W' => ∃ (v : Value) (s : SkyD), e = .returned v ∧ SkyX (fun b => W1.heap.size ≤ b) W' v s ∧ SmallSky s ∧ RingAt W B (n + 60) W' ∧ W1.grownBy W' (some B) := by
  obtain ⟨t1, h0, h1, hbW⟩ := hW.box hb
  refine (skyof_anyx hN hB t1 W1 (hW.up hu hB) hbW h0 (by omega)).mono ?_
  rintro e W' ⟨v, s, t', p', he, h2, h3, rfl, hs, hm⟩
  exact ⟨v, s, he, hs, hm, hW.called hb.lt h2 (by omega) p', grown_up (grown_set (grown_refl _ _) _ _) ((Up.refl _).ext _)⟩

/-- at a call: the world at hand under a new name, with what is kept of it -/
theorem forgetC {P : Program} {f : FuncId} {args : Array Value} {w : World} {R : Ending → World → Prop} (S : World → Prop) (hS : S w) (h : ∀ w', S w' → Calls P f args w' R) : Calls P f args w R := h w hS

/-- the world of a sky -/
@[go_sem] theorem field_world (a b c d : Value) (w : World) : (Instr.field 51 (.agg #[a, b, c, d]) 0).run Try.prog w = .ok (.agg #[a, b]) w := by kernel_rfl

def RDrift (v : Value) : Prop := ∃ l1 l2 h1 h2 g : Int, (0 ≤ l1 ∧ l1 ≤ l2 ∧ l2 ≤ 1000) ∧ (-1000 ≤ h1 ∧ h1 ≤ h2 ∧ h2 ≤ 1000) ∧ (0 ≤ g ∧ g ≤ 3) ∧ v = .agg #[.int .i64 (l1), .int .i64 (l2), .int .i64 (h1), .int .i64 (h2), .int .i64 (g)]
theorem ring_at_out {W : World} {B : Nat} {n t : Int} {k : Int} {R : Value → Prop} {v : Value} {W' : World} (h : RingAt W B n W') (hn : n ≤ t + k) (hR : R v) : RPost W B t k R (.returned v) W' :=
  let ⟨t', p, h0, h1, hW⟩ := h; ⟨v, t', p, rfl, hR, h0, by omega, hW⟩

set_option maxRecDepth 100000 in
set_option maxHeartbeats 1000000 in
theorem driftof_r {w : World} {sl : Value} (hN : Nums w sl) {B : Nat} (hB : w.heap.size ≤ B) :
    RingGives 20 #[.pointer (some ⟨B, 0, none⟩)] w sl B 6 RDrift := fun t W hu hb t0 t1 => by
  have KN := hide (fun (m : Int) (m0 : 1 ≤ m) (m1 : m ≤ 9223372036854775807) n V (hV : RingAt W B n V) (hn : n + 1 ≤ 100000) => (next_r hN hB m0 m1).at hu hb hB hV hn)
  have HR := hide (RingAt.start (n := t) hb t0 (by omega))
  have lB := hb.lt
  clear hN hB hu hb
  go_enter Try.func20, Try.ntmps20
  (go_wp2_with fail; go_at_call 42; refine (KN.out (4) (by omega) (by omega) _ _ (HR.out.alloc _) (by omega)).mono ?_; rintro _ V1 ⟨_, rfl, ⟨x, x0, x1, rfl⟩, hR1, hg1⟩)
  have b1 : Box V1 W.heap.size #[.int .i64 (0), .int .i64 (0), .int .i64 (0), .int .i64 (0), .int .i64 (0)] 54 := (Box.mk rfl).grown hg1 (by simp; omega)
  by_cases hx : x = 0
  · subst hx
    have f0 := b1.frozen 0
    have f1 := b1.frozen 1
    have f2 := b1.frozen 2
    have f3 := b1.frozen 3
    have f4 := b1.frozen 4
    have c0 := b1.cell 0 rfl
    have c1 := b1.cell 1 rfl
    have c2 := b1.cell 2 rfl
    have c3 := b1.cell 3 rfl
    have c4 := b1.cell 4 rfl
    have l1 := b1.lt
    have z := (((((b1.set 0 (.int .i64 0)).set 1 (.int .i64 0)).set 2 (.int .i64 0)).set 3 (.int .i64 0)).set 4 (.int .i64 0))
    have z0 := z.cell 0 rfl
    have z1 := z.cell 1 rfl
    have z2 := z.cell 2 rfl
    have z3 := z.cell 3 rfl
    have z4 := z.cell 4 rfl
    have HZ := hide (And.intro z0 (And.intro z1 (And.intro z2 (And.intro z3 z4))))
    clear z z0 z1 z2 z3 z4
    have HX := hide (And.intro hR1 b1)
    clear hR1 hg1 b1
    go_wp2_with fail
    refine bodyPost_ret (v := .agg #[.int .i64 (0), .int .i64 (0), .int .i64 (0), .int .i64 (0), .int .i64 (0)]) (by simp [results, Try.results20, go_sem, HZ.out.1, HZ.out.2.1, HZ.out.2.2.1, HZ.out.2.2.2.1, HZ.out.2.2.2.2]) rfl (ring_at_out (n := t + 1) ?_ (by omega) ⟨0, 0, 0, 0, 0, by omega, by omega, by omega, rfl⟩)
    exact (((((HX.out.1.set (by omega) _ _).set (by omega) _ _).set (by omega) _ _).set (by omega) _ _).set (by omega) _ _)
  · have hxb : (x == 0) = false := by simp [hx]
    (go_wp2_with fail; go_at_call 42; refine (KN.out (300) (by omega) (by omega) _ _ hR1 (by omega)).mono ?_; rintro _ V2 ⟨_, rfl, ⟨l, l0, l1, rfl⟩, hR2, hg2⟩)
    (go_wp2_with fail; go_at_call 42; refine (KN.out (600) (by omega) (by omega) _ _ hR2 (by omega)).mono ?_; rintro _ V3 ⟨_, rfl, ⟨h, h0, h1, rfl⟩, hR3, hg3⟩)
    (go_wp2_with fail; go_at_call 42; refine (KN.out (100) (by omega) (by omega) _ _ hR3 (by omega)).mono ?_; rintro _ V4 ⟨_, rfl, ⟨l', l'0, l'1, rfl⟩, hR4, hg4⟩)
    (go_wp2_with fail; go_at_call 42; refine (KN.out (100) (by omega) (by omega) _ _ hR4 (by omega)).mono ?_; rintro _ V5 ⟨_, rfl, ⟨h', h'0, h'1, rfl⟩, hR5, hg5⟩)
    (go_wp2_with fail; go_at_call 42; refine (KN.out (4) (by omega) (by omega) _ _ hR5 (by omega)).mono ?_; rintro _ V6 ⟨_, rfl, ⟨g, g0, g1, rfl⟩, hR6, hg6⟩)
    have b6 := ((((b1.grown hg2 (by simp; omega)).grown hg3 (by simp; omega)).grown hg4 (by simp; omega)).grown hg5 (by simp; omega)).grown hg6 (by simp; omega)
    have f0 := b6.frozen 0
    have f1 := b6.frozen 1
    have f2 := b6.frozen 2
    have f3 := b6.frozen 3
    have f4 := b6.frozen 4
    have c0 := b6.cell 0 rfl
    have c1 := b6.cell 1 rfl
    have c2 := b6.cell 2 rfl
    have c3 := b6.cell 3 rfl
    have c4 := b6.cell 4 rfl
    have l1 := b6.lt
    have z := (((((b6.set 0 (.int .i64 l)).set 1 (.int .i64 (l + l'))).set 2 (.int .i64 (h - 300))).set 3 (.int .i64 (h - 300 + h'))).set 4 (.int .i64 g))
    have z0 := z.cell 0 rfl
    have z1 := z.cell 1 rfl
    have z2 := z.cell 2 rfl
    have z3 := z.cell 3 rfl
    have z4 := z.cell 4 rfl
    have HZ := hide (And.intro z0 (And.intro z1 (And.intro z2 (And.intro z3 z4))))
    clear z z0 z1 z2 z3 z4
    have HX := hide hR6
    clear hR1 hg1 hR2 hg2 hR3 hg3 hR4 hg4 hR5 hg5 hR6 hg6 b1 b6
    go_wp2_with fail
    refine bodyPost_ret (v := .agg #[.int .i64 (l), .int .i64 ((l + l')), .int .i64 ((h - 300)), .int .i64 ((h - 300 + h')), .int .i64 (g)]) (by simp [results, Try.results20, go_sem, HZ.out.1, HZ.out.2.1, HZ.out.2.2.1, HZ.out.2.2.2.1, HZ.out.2.2.2.2]) rfl (ring_at_out (n := t + 1 + 1 + 1 + 1 + 1 + 1) ?_ (by omega) ⟨_, _, _, _, _, by omega, by omega, by omega, rfl⟩)
    exact (((((HX.out.set (by omega) _ _).set (by omega) _ _).set (by omega) _ _).set (by omega) _ _).set (by omega) _ _)

def RSub (a b : Int) (v : Value) : Prop := ∃ x y : Int, a ≤ x ∧ x ≤ y ∧ y ≤ b ∧ v = .agg #[.int .i64 x, .int .i64 y]
set_option maxRecDepth 100000 in
set_option maxHeartbeats 1000000 in
theorem lessspan_r {w : World} {sl : Value} (hN : Nums w sl) {B : Nat} (hB : w.heap.size ≤ B) {a b : Int} (a0 : -100000000000 ≤ a) (ab : a ≤ b) (b1 : b ≤ 100000000000) :
    RingGives 54 #[.pointer (some ⟨B, 0, none⟩), .agg #[.int .i64 a, .int .i64 b]] w sl B 2 (RSub a b) := fun t W hu hb t0 t1 => by
  have KR := hide (fun (lo hi : Int) (l0 : -1000000000000 ≤ lo) (l1 : lo ≤ hi) (l2 : hi ≤ 1000000000000) n V (hV : RingAt W B n V) (hn : n + 1 ≤ 100000) => (range_r hN hB l0 l1 l2).at hu hb hB hV hn)
  have HR := hide (RingAt.start (n := t) hb t0 (by omega))
  have lB := hb.lt
  clear hN hB hu hb
  go_enter Try.func54, Try.ntmps54
  (go_wp2_with fail; go_at_call 12; refine (KR.out (a) (b) (by omega) (by omega) (by omega) _ _ ((HR.out.alloc _).alloc _) (by omega)).mono ?_; rintro _ V1 ⟨_, rfl, ⟨x, x0, x1, rfl⟩, hR1, hg1⟩)
  have b0 : Box V1 W.heap.size #[.int .i64 (a), .int .i64 (b)] 36 := ((Box.mk rfl).alloc _).grown hg1 (by simp; omega)
  have bz : Box V1 (W.heap.size + 1) #[.int .i64 (0), .int .i64 (0)] 36 := (Box.mk (by simp)).grown hg1 (by simp; omega)
  have c1 := b0.cell 1 rfl
  have l0 := b0.lt
  (go_wp2_with fail; go_at_call 12; refine (KR.out (x) (b) (by omega) (by omega) (by omega) _ _ hR1 (by omega)).mono ?_; rintro _ V2 ⟨_, rfl, ⟨y, y0, y1, rfl⟩, hR2, hg2⟩)
  have bz2 := bz.grown hg2 (by simp; omega)
  have f0 := bz2.frozen 0
  have f1 := bz2.frozen 1
  have d0 := bz2.cell 0 rfl
  have d1 := bz2.cell 1 rfl
  have l1 := bz2.lt
  have z := ((bz2.set 0 (.int .i64 x)).set 1 (.int .i64 y))
  have z0 := z.cell 0 rfl
  have z1 := z.cell 1 rfl
  have HZ := hide (And.intro z0 z1)
  clear z z0 z1
  have HX := hide hR2
  clear hR1 hg1 hR2 hg2 b0 bz bz2 c1 l0
  go_wp2_with fail
  refine bodyPost_ret (v := .agg #[.int .i64 (x), .int .i64 (y)]) (by simp [results, Try.results54, go_sem, HZ.out.1, HZ.out.2]) rfl (ring_at_out (n := t + 1 + 1) ?_ (by omega) ⟨_, _, by omega, by omega, by omega, rfl⟩)
  exact (HX.out.set (by omega) _ _).set (by omega) _ _

def RSubA (a b c d : Int) (v : Value) : Prop := ∃ x y u v' : Int, (a ≤ x ∧ x ≤ y ∧ y ≤ b) ∧ (c ≤ u ∧ u ≤ v' ∧ v' ≤ d) ∧ v = .agg #[.int .i64 (x), .int .i64 (y), .int .i64 (u), .int .i64 (v')]
set_option maxRecDepth 100000 in
set_option maxHeartbeats 1000000 in
theorem lessarea_r {w : World} {sl : Value} (hN : Nums w sl) {B : Nat} (hB : w.heap.size ≤ B) {a b c d : Int} (a0 : -100000000000 ≤ a) (ab : a ≤ b) (b1 : b ≤ 100000000000) (c0 : -100000000000 ≤ c) (cd : c ≤ d) (d1 : d ≤ 100000000000) :
    RingGives 30 #[.pointer (some ⟨B, 0, none⟩), .agg #[.int .i64 (a), .int .i64 (b), .int .i64 (c), .int .i64 (d)]] w sl B 4 (RSubA a b c d) := fun t W hu hb t0 t1 => by
  have KL := hide (fun (a b : Int) (a0 : -100000000000 ≤ a) (ab : a ≤ b) (b1 : b ≤ 100000000000) n V (hV : RingAt W B n V) (hn : n + 2 ≤ 100000) => (lessspan_r hN hB a0 ab b1).at hu hb hB hV hn)
  have HR := hide (RingAt.start (n := t) hb t0 (by omega))
  have lB := hb.lt
  clear hN hB hu hb
  go_enter Try.func30, Try.ntmps30
  go_wp2_with fail
  have hS0 := hide (show Box ((W.alloc (.cells #[.int .i64 (a), .int .i64 (b), .int .i64 (c), .int .i64 (d)] 38)).alloc (.cells #[.int .i64 (0), .int .i64 (0), .int .i64 (0), .int .i64 (0)] 38)).drew W.heap.size #[.int .i64 (a), .int .i64 (b), .int .i64 (c), .int .i64 (d)] 38 from (by repeat (first | exact Box.mk rfl | (refine Box.mk ?_; simp; done) | apply Box.ext | apply Box.drew | apply Box.alloc | apply Box.two1 | (refine Box.other ?_ (by omega) _ _))))
  have bz : Box ((W.alloc (.cells #[.int .i64 (a), .int .i64 (b), .int .i64 (c), .int .i64 (d)] 38)).alloc (.cells #[.int .i64 (0), .int .i64 (0), .int .i64 (0), .int .i64 (0)] 38)).drew (W.heap.size + 1) #[.int .i64 (0), .int .i64 (0), .int .i64 (0), .int .i64 (0)] 38 := (by repeat (first | exact Box.mk rfl | (refine Box.mk ?_; simp; done) | apply Box.ext | apply Box.drew | apply Box.alloc | apply Box.two1 | (refine Box.other ?_ (by omega) _ _)))
  refine wp_region_L (fun W' => Box W' W.heap.size #[.int .i64 (a), .int .i64 (b), .int .i64 (c), .int .i64 (d)] 38) 9 (by kernel_rfl) ?_
  refine anyL_take 0 (v := (.pointer (some ⟨B, 0, none⟩))) rfl (by kernel_rfl) (fun _ _ _ h => h) (.inl ⟨rfl, fun W' hW' => by simp [go_sem]⟩) hS0.out ?_
  simp only [Act.put, List.setIfInBounds_toArray, List.set_cons_zero, List.set_cons_succ]
  refine anyL_take 1 (v := (.pointer (some ⟨W.heap.size, 0, none⟩))) rfl (by kernel_rfl) (fun _ _ _ h => h) (.inl ⟨rfl, fun W' hW' => by simp [go_sem]⟩) hS0.out ?_
  simp only [Act.put, List.setIfInBounds_toArray, List.set_cons_zero, List.set_cons_succ]
  refine anyL_take 2 (v := (.agg #[.int .i64 (a), .int .i64 (b)])) rfl (by kernel_rfl) (fun _ _ _ h => h) (.inl ⟨rfl, fun W' hW' => by have e0 := Box.cell hW' 0 rfl; have e1 := Box.cell hW' 1 rfl; simp [go_sem, e0, e1]⟩) hS0.out ?_
  simp only [Act.put, List.setIfInBounds_toArray, List.set_cons_zero, List.set_cons_succ]
  refine anyL_take 4 (v := (.pointer (some ⟨B, 0, none⟩))) rfl (by kernel_rfl) (fun _ _ _ h => h) (.inl ⟨rfl, fun W' hW' => by simp [go_sem]⟩) hS0.out ?_
  simp only [Act.put, List.setIfInBounds_toArray, List.set_cons_zero, List.set_cons_succ]
  refine anyL_take 5 (v := (.pointer (some ⟨W.heap.size, 2, none⟩))) rfl (by kernel_rfl) (fun _ _ _ h => h) (.inl ⟨rfl, fun W' hW' => by simp [go_sem]⟩) hS0.out ?_
  simp only [Act.put, List.setIfInBounds_toArray, List.set_cons_zero, List.set_cons_succ]
  refine anyL_take 6 (v := (.agg #[.int .i64 (c), .int .i64 (d)])) rfl (by kernel_rfl) (fun _ _ _ h => h) (.inl ⟨rfl, fun W' hW' => by have e0 := Box.cell hW' 2 rfl; have e1 := Box.cell hW' 3 rfl; simp [go_sem, e0, e1]⟩) hS0.out ?_
  simp only [Act.put, List.setIfInBounds_toArray, List.set_cons_zero, List.set_cons_succ]
  refine anyL_one (i := 3) (by kernel_rfl) rfl (fun K HK => ?_)
  go_wp2_with fail
  go_at_call 54
  refine (KL.out a b a0 ab b1 _ _ ((HR.out.alloc _).alloc _).drew (by omega)).mono ?_
  rintro _ V1 ⟨_, rfl, ⟨x, y, x0, x1, x2, rfl⟩, hR1, hg1⟩
  have bp1 := hS0.out.grown hg1 (by simp; omega)
  have bz1 := bz.grown hg1 (by simp; omega)
  go_wp2_with fail
  refine HK.out _ _ (fun _ => bp1) ?_
  clear HK
  refine anyL_one (i := 7) (by kernel_rfl) rfl (fun K HK => ?_)
  go_wp2_with fail
  go_at_call 54
  refine (KL.out c d c0 cd d1 _ _ hR1 (by omega)).mono ?_
  rintro _ V2 ⟨_, rfl, ⟨u, v, u0, u1, u2, rfl⟩, hR2, hg2⟩
  have bp2 := bp1.grown hg2 (by simp; omega)
  have bz2 := bz1.grown hg2 (by simp; omega)
  go_wp2_with fail
  refine HK.out _ _ (fun _ => bp2) ?_
  clear HK
  refine anyL_one (i := 8) (by kernel_rfl) rfl (fun K HK => ?_)
  go_wp2_with fail
  refine HK.out _ _ (fun _ => bp2) ?_
  clear HK
  have f0 := bz2.frozen 0
  have f1 := bz2.frozen 1
  have f2 := bz2.frozen 2
  have f3 := bz2.frozen 3
  have e0 := bz2.cell 0 rfl
  have e1 := bz2.cell 1 rfl
  have e2 := bz2.cell 2 rfl
  have e3 := bz2.cell 3 rfl
  have l1 := bz2.lt
  have z := ((((bz2.set 0 (.int .i64 x)).set 1 (.int .i64 y)).set 2 (.int .i64 u)).set 3 (.int .i64 v))
  have z0 := z.cell 0 rfl
  have z1 := z.cell 1 rfl
  have z2 := z.cell 2 rfl
  have z3 := z.cell 3 rfl
  have HZ := hide (And.intro z0 (And.intro z1 (And.intro z2 z3)))
  have HX := hide hR2
  clear z z0 z1 z2 z3 hR1 hg1 hR2 hg2 bz bz1 bz2 bp1 bp2 hS0
  refine anyL_one (i := 9) (by kernel_rfl) rfl (fun K HK => ?_)
  go_wp2_with fail
  refine HK.out _ _ (fun h => (h rfl).elim) ?_
  clear HK
  refine anyL_done (by kernel_rfl) ?_
  go_wp2_with fail
  refine bodyPost_ret (v := .agg #[.int .i64 (x), .int .i64 (y), .int .i64 (u), .int .i64 (v)]) (by simp [results, Try.results30, go_sem, HZ.out.1, HZ.out.2.1, HZ.out.2.2.1, HZ.out.2.2.2]) rfl (ring_at_out (n := t + 2 + 2) ?_ (by omega) ⟨_, _, _, _, ⟨x0, x1, x2⟩, ⟨u0, u1, u2⟩, rfl⟩)
  exact ((((HX.out.set (by omega) _ _).set (by omega) _ _).set (by omega) _ _).set (by omega) _ _)

def RSubD (l1 l2 h1 h2 g : Int) (v : Value) : Prop := ∃ a b c d e : Int, (l1 ≤ a ∧ a ≤ b ∧ b ≤ l2) ∧ (h1 ≤ c ∧ c ≤ d ∧ d ≤ h2) ∧ (0 ≤ e ∧ e ≤ g) ∧ v = .agg #[.int .i64 (a), .int .i64 (b), .int .i64 (c), .int .i64 (d), .int .i64 (e)]
set_option maxRecDepth 100000 in
set_option maxHeartbeats 1000000 in
theorem lessdrift_r {w : World} {sl : Value} (hN : Nums w sl) {B : Nat} (hB : w.heap.size ≤ B) {l1 l2 h1 h2 g : Int} (hl : -100000000000 ≤ l1 ∧ l1 ≤ l2 ∧ l2 ≤ 100000000000) (hh : -100000000000 ≤ h1 ∧ h1 ≤ h2 ∧ h2 ≤ 100000000000) (hg : 0 ≤ g ∧ g ≤ 100000) :
    RingGives 29 #[.pointer (some ⟨B, 0, none⟩), .agg #[.int .i64 (l1), .int .i64 (l2), .int .i64 (h1), .int .i64 (h2), .int .i64 (g)]] w sl B 5 (RSubD l1 l2 h1 h2 g) := fun t W hu hb t0 t1 => by
  have KL := hide (fun (a b : Int) (a0 : -100000000000 ≤ a) (ab : a ≤ b) (b1 : b ≤ 100000000000) n V (hV : RingAt W B n V) (hn : n + 2 ≤ 100000) => (lessspan_r hN hB a0 ab b1).at hu hb hB hV hn)
  have KR := hide (fun (lo hi : Int) (l0 : -1000000000000 ≤ lo) (l1 : lo ≤ hi) (l2 : hi ≤ 1000000000000) n V (hV : RingAt W B n V) (hn : n + 1 ≤ 100000) => (range_r hN hB l0 l1 l2).at hu hb hB hV hn)
  have HR := hide (RingAt.start (n := t) hb t0 (by omega))
  have lB := hb.lt
  clear hN hB hu hb
  go_enter Try.func29, Try.ntmps29
  go_wp2_with fail
  have hS0 := hide (show Box ((W.alloc (.cells #[.int .i64 (l1), .int .i64 (l2), .int .i64 (h1), .int .i64 (h2), .int .i64 (g)] 54)).alloc (.cells #[.int .i64 (0), .int .i64 (0), .int .i64 (0), .int .i64 (0), .int .i64 (0)] 54)).drew W.heap.size #[.int .i64 (l1), .int .i64 (l2), .int .i64 (h1), .int .i64 (h2), .int .i64 (g)] 54 from (by repeat (first | exact Box.mk rfl | (refine Box.mk ?_; simp; done) | apply Box.ext | apply Box.drew | apply Box.alloc | apply Box.two1 | (refine Box.other ?_ (by omega) _ _))))
  have bz : Box ((W.alloc (.cells #[.int .i64 (l1), .int .i64 (l2), .int .i64 (h1), .int .i64 (h2), .int .i64 (g)] 54)).alloc (.cells #[.int .i64 (0), .int .i64 (0), .int .i64 (0), .int .i64 (0), .int .i64 (0)] 54)).drew (W.heap.size + 1) #[.int .i64 (0), .int .i64 (0), .int .i64 (0), .int .i64 (0), .int .i64 (0)] 54 := (by repeat (first | exact Box.mk rfl | (refine Box.mk ?_; simp; done) | apply Box.ext | apply Box.drew | apply Box.alloc | apply Box.two1 | (refine Box.other ?_ (by omega) _ _)))
  refine wp_region_L (fun W' => Box W' W.heap.size #[.int .i64 (l1), .int .i64 (l2), .int .i64 (h1), .int .i64 (h2), .int .i64 (g)] 54) 13 (by kernel_rfl) ?_
  refine anyL_take 0 (v := (.pointer (some ⟨B, 0, none⟩))) rfl (by kernel_rfl) (fun _ _ _ h => h) (.inl ⟨rfl, fun W' hW' => by simp [go_sem]⟩) hS0.out ?_
  simp only [Act.put, List.setIfInBounds_toArray, List.set_cons_zero, List.set_cons_succ]
  refine anyL_take 1 (v := (.pointer (some ⟨W.heap.size, 0, none⟩))) rfl (by kernel_rfl) (fun _ _ _ h => h) (.inl ⟨rfl, fun W' hW' => by simp [go_sem]⟩) hS0.out ?_
  simp only [Act.put, List.setIfInBounds_toArray, List.set_cons_zero, List.set_cons_succ]
  refine anyL_take 2 (v := (.agg #[.int .i64 (l1), .int .i64 (l2)])) rfl (by kernel_rfl) (fun _ _ _ h => h) (.inl ⟨rfl, fun W' hW' => by have e0 := Box.cell hW' 0 rfl; have e1 := Box.cell hW' 1 rfl; simp [go_sem, e0, e1]⟩) hS0.out ?_
  simp only [Act.put, List.setIfInBounds_toArray, List.set_cons_zero, List.set_cons_succ]
  refine anyL_take 4 (v := (.pointer (some ⟨B, 0, none⟩))) rfl (by kernel_rfl) (fun _ _ _ h => h) (.inl ⟨rfl, fun W' hW' => by simp [go_sem]⟩) hS0.out ?_
  simp only [Act.put, List.setIfInBounds_toArray, List.set_cons_zero, List.set_cons_succ]
  refine anyL_take 5 (v := (.pointer (some ⟨W.heap.size, 2, none⟩))) rfl (by kernel_rfl) (fun _ _ _ h => h) (.inl ⟨rfl, fun W' hW' => by simp [go_sem]⟩) hS0.out ?_
  simp only [Act.put, List.setIfInBounds_toArray, List.set_cons_zero, List.set_cons_succ]
  refine anyL_take 6 (v := (.agg #[.int .i64 (h1), .int .i64 (h2)])) rfl (by kernel_rfl) (fun _ _ _ h => h) (.inl ⟨rfl, fun W' hW' => by have e0 := Box.cell hW' 2 rfl; have e1 := Box.cell hW' 3 rfl; simp [go_sem, e0, e1]⟩) hS0.out ?_
  simp only [Act.put, List.setIfInBounds_toArray, List.set_cons_zero, List.set_cons_succ]
  refine anyL_take 8 (v := (.pointer (some ⟨B, 0, none⟩))) rfl (by kernel_rfl) (fun _ _ _ h => h) (.inl ⟨rfl, fun W' hW' => by simp [go_sem]⟩) hS0.out ?_
  simp only [Act.put, List.setIfInBounds_toArray, List.set_cons_zero, List.set_cons_succ]
  refine anyL_take 9 (v := (.pointer (some ⟨W.heap.size, 4, none⟩))) rfl (by kernel_rfl) (fun _ _ _ h => h) (.inl ⟨rfl, fun W' hW' => by simp [go_sem]⟩) hS0.out ?_
  simp only [Act.put, List.setIfInBounds_toArray, List.set_cons_zero, List.set_cons_succ]
  refine anyL_take 10 (v := (.int .i64 g)) rfl (by kernel_rfl) (fun _ _ _ h => h) (.inl ⟨rfl, fun W' hW' => by have e0 := Box.cell hW' 4 rfl; simp [go_sem, e0]⟩) hS0.out ?_
  simp only [Act.put, List.setIfInBounds_toArray, List.set_cons_zero, List.set_cons_succ]
  refine anyL_one (i := 3) (by kernel_rfl) rfl (fun K HK => ?_)
  go_wp2_with fail
  go_at_call 54
  refine (KL.out l1 l2 hl.1 hl.2.1 hl.2.2 _ _ ((HR.out.alloc _).alloc _).drew (by omega)).mono ?_
  rintro _ V1 ⟨_, rfl, ⟨x, y, x0, x1, x2, rfl⟩, hR1, hg1⟩
  have bp1 := hS0.out.grown hg1 (by simp; omega)
  have bz1 := bz.grown hg1 (by simp; omega)
  go_wp2_with fail
  refine HK.out _ _ (fun _ => bp1) ?_
  clear HK
  refine anyL_one (i := 7) (by kernel_rfl) rfl (fun K HK => ?_)
  go_wp2_with fail
  go_at_call 54
  refine (KL.out h1 h2 hh.1 hh.2.1 hh.2.2 _ _ hR1 (by omega)).mono ?_
  rintro _ V2 ⟨_, rfl, ⟨u, v, u0, u1, u2, rfl⟩, hR2, hg2⟩
  have bp2 := bp1.grown hg2 (by simp; omega)
  have bz2 := bz1.grown hg2 (by simp; omega)
  go_wp2_with fail
  refine HK.out _ _ (fun _ => bp2) ?_
  clear HK
  refine anyL_one (i := 11) (by kernel_rfl) rfl (fun K HK => ?_)
  go_wp2_with fail
  go_at_call 12
  refine (KR.out 0 g (by omega) (by omega) (by omega) _ _ hR2 (by omega)).mono ?_
  rintro _ V3 ⟨_, rfl, ⟨q, q0, q1, rfl⟩, hR3, hg3⟩
  have bp3 := bp2.grown hg3 (by simp; omega)
  have bz3 := bz2.grown hg3 (by simp; omega)
  go_wp2_with fail
  refine HK.out _ _ (fun _ => bp3) ?_
  clear HK
  refine anyL_one (i := 12) (by kernel_rfl) rfl (fun K HK => ?_)
  go_wp2_with fail
  refine HK.out _ _ (fun _ => bp3) ?_
  clear HK
  have f0 := bz3.frozen 0
  have f1 := bz3.frozen 1
  have f2 := bz3.frozen 2
  have f3 := bz3.frozen 3
  have f4 := bz3.frozen 4
  have e0 := bz3.cell 0 rfl
  have e1 := bz3.cell 1 rfl
  have e2 := bz3.cell 2 rfl
  have e3 := bz3.cell 3 rfl
  have e4 := bz3.cell 4 rfl
  have ll := bz3.lt
  have z := (((((bz3.set 0 (.int .i64 x)).set 1 (.int .i64 y)).set 2 (.int .i64 u)).set 3 (.int .i64 v)).set 4 (.int .i64 q))
  have z0 := z.cell 0 rfl
  have z1 := z.cell 1 rfl
  have z2 := z.cell 2 rfl
  have z3 := z.cell 3 rfl
  have z4 := z.cell 4 rfl
  have HZ := hide (And.intro z0 (And.intro z1 (And.intro z2 (And.intro z3 z4))))
  have HX := hide hR3
  clear z z0 z1 z2 z3 z4 hR1 hg1 hR2 hg2 hR3 hg3 bz bz1 bz2 bz3 bp1 bp2 bp3 hS0
  refine anyL_one (i := 13) (by kernel_rfl) rfl (fun K HK => ?_)
  go_wp2_with fail
  refine HK.out _ _ (fun h => (h rfl).elim) ?_
  clear HK
  refine anyL_done (by kernel_rfl) ?_
  go_wp2_with fail
  refine bodyPost_ret (v := .agg #[.int .i64 (x), .int .i64 (y), .int .i64 (u), .int .i64 (v), .int .i64 (q)]) (by simp [results, Try.results29, go_sem, HZ.out.1, HZ.out.2.1, HZ.out.2.2.1, HZ.out.2.2.2.1, HZ.out.2.2.2.2]) rfl (ring_at_out (n := t + 2 + 2 + 1) ?_ (by omega) ⟨_, _, _, _, _, ⟨x0, x1, x2⟩, ⟨u0, u1, u2⟩, ⟨q0, q1⟩, rfl⟩)
  exact (((((HX.out.set (by omega) _ _).set (by omega) _ _).set (by omega) _ _).set (by omega) _ _).set (by omega) _ _)

theorem sumarea_any (a b : Int × Int × Int × Int) (ha : (-1000000000000 ≤ a.1 ∧ a.1 ≤ 1000000000000) ∧ (-1000000000000 ≤ a.2.1 ∧ a.2.1 ≤ 1000000000000) ∧ (-1000000000000 ≤ a.2.2.1 ∧ a.2.2.1 ≤ 1000000000000) ∧ -1000000000000 ≤ a.2.2.2 ∧ a.2.2.2 ≤ 1000000000000)
    (hb : (-1000000000000 ≤ b.1 ∧ b.1 ≤ 1000000000000) ∧ (-1000000000000 ≤ b.2.1 ∧ b.2.1 ≤ 1000000000000) ∧ (-1000000000000 ≤ b.2.2.1 ∧ b.2.2.1 ≤ 1000000000000) ∧ -1000000000000 ≤ b.2.2.2 ∧ b.2.2.2 ≤ 1000000000000) (w : World) :
    Gives Try.prog 33 #[.agg #[.int .i64 a.1, .int .i64 a.2.1, .int .i64 a.2.2.1, .int .i64 a.2.2.2], .agg #[.int .i64 b.1, .int .i64 b.2.1, .int .i64 b.2.2.1, .int .i64 b.2.2.2]] w (.agg #[.int .i64 ((a.1 + b.1)), .int .i64 ((a.2.1 + b.2.1)), .int .i64 ((a.2.2.1 + b.2.2.1)), .int .i64 ((a.2.2.2 + b.2.2.2))]) := by
  obtain ⟨a1, a2, a3, a4⟩ := a
  obtain ⟨b1, b2, b3, b4⟩ := b
  obtain ⟨h1, h2, h3, h4⟩ := ha
  obtain ⟨k1, k2, k3, k4⟩ := hb
  dsimp only at *
  (unfold Gives; go_enter Try.func33, Try.ntmps33)
  go_wp2
  all_goals (refine bodyPost_give (by repeat (first | with_reducible exact Up.refl _ | with_reducible apply Up.plus | apply Up.ext | apply Up.alloc | apply Up.drew | (refine Up.setCell ?_ (by simp; try omega) _))) rfl ⟨_, (by simp [results, Try.results33, go_sem]; rfl), ?_⟩)
  all_goals rfl
end Go.Proofs.Ytbcgdhldkanecaa
