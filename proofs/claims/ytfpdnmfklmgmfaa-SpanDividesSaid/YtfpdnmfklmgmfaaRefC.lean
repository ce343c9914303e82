/- The document's own gathering over the corners of two spans: products, quotients. Conditions: the ends' ranges; divisors that are not 0. -/
import Derived.Test.YtfpdnmfklmgmfaaRefQ
namespace Go.Proofs.Ytfpdnmfklmgmfaa
open Go.RowKit

/-- what one corner gives -/
def opR (o : Bool) : OpE := fun x y => if o = true then mdE x y else mdE (x * y) 1
theorem opR_err (o : Bool) (x y : Int) : (opR o x y).2.2 = 0 ∨ opR o x y = (0, 0, 14) := by
  unfold opR; split <;> exact mdE_err _ _
theorem mdE_bd (p c : Int) (h : (mdE p c).2.2 = 0) : -1152921504606846976 ≤ (mdE p c).1 ∧ (mdE p c).1 ≤ 1152921504606846976 ∧ -1152921504606846976 ≤ (mdE p c).2.1 ∧ (mdE p c).2.1 ≤ 1152921504606846976 := by
  unfold mdE at h ⊢; split
  · assumption
  · rename_i h1; rw [if_neg h1] at h; simp at h
theorem opR_bd (o : Bool) (x y : Int) (h : (opR o x y).2.2 = 0) : -1152921504606846976 ≤ (opR o x y).1 ∧ (opR o x y).1 ≤ 1152921504606846976 ∧ -1152921504606846976 ≤ (opR o x y).2.1 ∧ (opR o x y).2.1 ≤ 1152921504606846976 := by
  unfold opR at h ⊢; split
  · rename_i h1; rw [if_pos h1] at h; exact mdE_bd _ _ h
  · rename_i h1; rw [if_neg h1] at h; exact mdE_bd _ _ h

def corR (o : Bool) (a b c d : Int) : Int × Int × Int :=
  if err (opR o) (four a b c d) = 0 then ((acc (opR o) (four a b c d)).1, (acc (opR o) (four a b c d)).2, 0) else (0, 0, 14)

/-- how far the gathering has come: n corners seen -/
structure Cor (op : OpE) (a b c d : Int) (n : Nat) (f : Bool) (x y : Int) : Prop where
  first : f = decide (n = 0)
  none : err op ((four a b c d).take n) = 0
  out : n = 0 ∨ (x, y) = acc op ((four a b c d).take n)
theorem Cor.start (op : OpE) (a b c d x y : Int) : Cor op a b c d 0 true x y := ⟨rfl, rfl, .inl rfl⟩
theorem Cor.step {o : Bool} {a b c d : Int} {k j : Nat} {f : Bool} {x y : Int} (h : Cor (opR o) a b c d (2 * k + j) f x y) (hk : k < 2) (hj : j < 2) (he : (opR o (at2 a b k) (at2 c d j)).2.2 = 0) {x' y' : Int}
    (hx : x' = if f = true ∨ (opR o (at2 a b k) (at2 c d j)).1 < x then (opR o (at2 a b k) (at2 c d j)).1 else x) (hy : y' = if f = true ∨ y < (opR o (at2 a b k) (at2 c d j)).2.1 then (opR o (at2 a b k) (at2 c d j)).2.1 else y) :
    Cor (opR o) a b c d (2 * k + (j + 1)) false x' y' := by
  have hb := opR_bd o _ _ he
  refine ⟨by simp, ?_, .inr ?_⟩
  · rw [← four_step a b c d k j hk hj, err_zero _ _ _ h.none]; exact he
  · rw [← four_step a b c d k j hk hj, acc_snoc]
    rcases h.out with h0 | h0
    · have hf : f = true := by rw [h.first, h0]; rfl
      rw [h0, hx, hy, hf]
      simp only [List.take_zero, acc, List.foldl_nil, true_or, if_true]
      rw [show min 1152921504606846976 (opR o (at2 a b k) (at2 c d j)).1 = (opR o (at2 a b k) (at2 c d j)).1 by omega, show max (-1152921504606846976) (opR o (at2 a b k) (at2 c d j)).2.1 = (opR o (at2 a b k) (at2 c d j)).2.1 by omega]
    · rw [← h0, hx, hy]
      rcases Nat.eq_zero_or_pos (2 * k + j) with hz | hz
      · have hf : f = true := by rw [h.first, hz]; rfl
        rw [hz] at h0
        simp only [List.take_zero, acc, List.foldl_nil, Prod.mk.injEq] at h0
        rw [hf]; simp only [true_or, if_true]
        congr 1 <;> omega
      · have hf : f = false := by rw [h.first]; simp; omega
        rw [hf]
        simp only [Bool.false_eq_true, false_or]
        congr 1 <;> (split <;> omega)
theorem Cor.fails {o : Bool} {a b c d : Int} {k j : Nat} {f : Bool} {x y : Int} (h : Cor (opR o) a b c d (2 * k + j) f x y) (hk : k < 2) (hj : j < 2) (he : ¬ (opR o (at2 a b k) (at2 c d j)).2.2 = 0) : corR o a b c d = (0, 0, 14) := by
  have h1 : err (opR o) ((four a b c d).take (2 * k + (j + 1))) ≠ 0 := by rw [← four_step a b c d k j hk hj, err_zero _ _ _ h.none]; exact he
  have h2 : err (opR o) (four a b c d) ≠ 0 := by
    have := err_pre (opR o) _ ((four a b c d).drop (2 * k + (j + 1))) h1
    rw [List.take_append_drop] at this; rw [this]; exact h1
  unfold corR; rw [if_neg h2]
theorem Cor.done {o : Bool} {a b c d : Int} {f : Bool} {x y : Int} (h : Cor (opR o) a b c d 4 f x y) : corR o a b c d = (x, y, 0) := by
  have h1 := h.none
  have h2 := h.out.resolve_left (by omega)
  rw [show (four a b c d).take 4 = four a b c d from rfl] at h1 h2
  unfold corR; rw [if_pos h1, ← h2]

theorem at2_bd {a b L U : Int} (k : Nat) (a0 : L ≤ a) (a1 : a ≤ U) (b0 : L ≤ b) (b1 : b ≤ U) : L ≤ at2 a b k ∧ at2 a b k ≤ U := by unfold at2; split <;> omega
theorem at2_cell (a b : Int) (k : Nat) (hk : k < 2) : (#[.int .i64 a, .int .i64 b] : Array Value)[k]? = some (.int .i64 (at2 a b k)) := by
  have : k = 0 ∨ k = 1 := by omega
  rcases this with rfl | rfl <;> rfl

theorem rwide_one (a : Int) (ha0 : -9223372036854775808 ≤ a) (ha1 : a ≤ 9223372036854775807) (w : World) :
    Gives Try.prog 84 #[.int .i64 a, .int .i64 1] w
      (.agg #[.bool (decide (a < 0)), .int .u64 ((a.natAbs : Int) / 18446744073709551616), .int .u64 ((a.natAbs : Int) % 18446744073709551616)]) := by
  have h := rwide_sgn a 1 ha0 ha1 (by omega) (by omega) w
  rw [Int.mul_one] at h
  exact h

/-- the five boxes of the gathering -/
structure CorBox (w wr : World) (a b c d x y : Int) : Prop where
  up : Up w wr
  b0 : Box wr w.heap.size #[.int .i64 a, .int .i64 b] 34
  b1 : Box wr (w.heap.size + 1) #[.int .i64 c, .int .i64 d] 34
  b2 : Box wr (w.heap.size + 1 + 1) #[.int .i64 0, .int .i64 0] 34
  b3 : Box wr (w.heap.size + 1 + 1 + 1) #[.int .i64 x, .int .i64 y] 34
  b4 : Box wr (w.heap.size + 1 + 1 + 1 + 1) #[.int .i64 a, .int .i64 b] 2
theorem CorBox.ups {w wr wr' : World} {a b c d x y : Int} (h : CorBox w wr a b c d x y) (u : Up wr wr') : CorBox w wr' a b c d x y :=
  ⟨h.up.trans u, h.b0.up u, h.b1.up u, h.b2.up u, h.b3.up u, h.b4.up u⟩

theorem CorBox.ext' {w wr : World} {a b c d x y : Int} (h : CorBox w wr a b c d x y) (p : Ext) : CorBox w (ext wr p) a b c d x y := h.ups ((Up.refl _).ext p)
theorem CorBox.alloc' {w wr : World} {a b c d x y : Int} (h : CorBox w wr a b c d x y) (o : Obj) : CorBox w (wr.alloc o) a b c d x y := h.ups ((Up.refl _).alloc o)
theorem CorBox.set0 {w wr : World} {a b c d x y : Int} (h : CorBox w wr a b c d x y) (v : Int) : CorBox w (wr.setCell ⟨w.heap.size + 1 + 1 + 1, 0, none⟩ (.int .i64 v)) a b c d v y :=
  ⟨h.up.setCell (by simp; omega) _, h.b0.other (by omega) _ _, h.b1.other (by omega) _ _, h.b2.other (by omega) _ _, h.b3.set 0 _, h.b4.other (by omega) _ _⟩
theorem CorBox.set1 {w wr : World} {a b c d x y : Int} (h : CorBox w wr a b c d x y) (v : Int) : CorBox w (wr.setCell ⟨w.heap.size + 1 + 1 + 1, 1, none⟩ (.int .i64 v)) a b c d x v :=
  ⟨h.up.setCell (by simp; omega) _, h.b0.other (by omega) _ _, h.b1.other (by omega) _ _, h.b2.other (by omega) _ _, h.b3.set 1 _, h.b4.other (by omega) _ _⟩
theorem CorBox.far {w wr : World} {a b c d x y : Int} (h : CorBox w wr a b c d x y) {B : Nat} (hB : w.heap.size + 1 + 1 + 1 + 1 < B) (i : Nat) (v : Value) : CorBox w (wr.setCell ⟨B, i, none⟩ v) a b c d x y :=
  ⟨h.up.setCell (by simp; omega) _, h.b0.other (by omega) _ _, h.b1.other (by omega) _ _, h.b2.other (by omega) _ _, h.b3.other (by omega) _ _, h.b4.other (by omega) _ _⟩

theorem Box.pair0 {w : World} {b : Nat} {x y : Value} {t : TypeId} (h : Box w b #[x, y] t) (v : Value) : Box (w.setCell ⟨b, 0, none⟩ v) b #[v, y] t := h.set 0 v
theorem Box.pair1 {w : World} {b : Nat} {x y : Value} {t : TypeId} (h : Box w b #[x, y] t) (v : Value) : Box (w.setCell ⟨b, 1, none⟩ v) b #[x, v] t := h.set 1 v
theorem rcorners_read {W : World} {B : Nat} {v0 v1 e : Value} {t : TypeId} {tmps : Array Value} (h6 : tmps.getD 6 undef = .pointer (some ⟨B, 0, none⟩)) (h7 : tmps.getD 7 undef = e) (hB : Box W B #[v0, v1] t) :
    (results Try.f91 tmps).run Try.prog W = .ok (.tuple #[.agg #[v0, v1], e]) W := by
  have c0 := hB.cell 0 rfl
  have c1 := hB.cell 1 rfl
  rw [Array.getD_eq_getD_getElem?] at h6 h7
  simp [results, Try.results91, go_sem, h6, h7, c0, c1]

set_option maxRecDepth 100000 in
set_option maxHeartbeats 4000000 in
theorem rcorners_any (o : Bool) (a b c d : Int) (a0 : -1152921504606846976 ≤ a) (a1 : a ≤ 1152921504606846976) (b0 : -1152921504606846976 ≤ b) (b1 : b ≤ 1152921504606846976)
    (c0 : -1152921504606846976 ≤ c) (c1 : c ≤ 1152921504606846976) (d0 : -1152921504606846976 ≤ d) (d1 : d ≤ 1152921504606846976) (hz : o = true → c ≠ 0 ∧ d ≠ 0) (w : World) :
    Gives Try.prog 91 #[.agg #[.int .i64 a, .int .i64 b], .agg #[.int .i64 c, .int .i64 d], .bool o] w
      (.tuple #[.agg #[.int .i64 (corR o a b c d).1, .int .i64 (corR o a b c d).2.1], .int .i64 (corR o a b c d).2.2]) := by
  obtain ⟨R, hR⟩ : ∃ R, corR o a b c d = R := ⟨_, rfl⟩
  rw [hR]
  have HR := hide hR
  have HZ := hide hz
  clear hR hz
  (unfold Gives; go_enter Try.func91, Try.ntmps91)
  go_wp2
  go_loopw [9, 25] (fun s9 s25 wr => ∃ (k : Nat) (f : Bool) (x y : Int), k ≤ 2 ∧ s9 = .bool f ∧ s25 = .int .i64 k ∧ Hid (Cor (opR o) a b c d (2 * k) f x y) ∧ Hid (CorBox w wr a b c d x y)) (fun _ s25 _ => 2 - (intOf s25).toNat)
  case atStart =>
    refine ⟨0, true, 0, 0, by omega, rfl, rfl, hide (Cor.start _ _ _ _ _ _ _), hide ⟨(by repeat (first | with_reducible exact Up.refl _ | apply Up.ext | apply Up.alloc | apply Up.drew | (refine Up.setCell ?_ (by simp; try omega) _))), ?_, ?_, ?_, ?_, Box.mk (by simp)⟩⟩
    · exact (((((Box.mk rfl).alloc _).alloc _).alloc _).alloc _)
    · exact ((((Box.mk (by simp)).alloc _).alloc _).alloc _)
    · exact (((Box.mk (by simp)).alloc _).alloc _)
    · exact ((Box.mk (by simp)).alloc _)
  case round =>
    obtain ⟨k, f, x, y, hk, rfl, rfl, hC, hB⟩ := hrel
    by_cases hlt : k < 2
    · have hkb : decide ((k : Int) < 2) = true := by simp; omega
      have q1 := hB.out.b4.cell k (at2_cell a b k hlt)
      have q2 := hB.out.b1.cell 0 rfl
      have q3 := hB.out.b1.cell 1 rfl
      have sz := hB.out.b4.lt
      obtain ⟨X, hX⟩ : ∃ X, at2 a b k = X := ⟨_, rfl⟩
      obtain ⟨x0, x1⟩ : -1152921504606846976 ≤ X ∧ X ≤ 1152921504606846976 := by rw [← hX]; exact at2_bd k a0 a1 b0 b1
      rw [hX] at q1
      have HX := hide hX
      clear hX
      go_wp2
      have hBk : CorBox w (wr.alloc (.cells #[.int .i64 c, .int .i64 d] 2)) a b c d x y := hB.out.ups ((Up.refl _).alloc _)
      have hSk : Box (wr.alloc (.cells #[.int .i64 c, .int .i64 d] 2)) wr.heap.size #[.int .i64 c, .int .i64 d] 2 := Box.mk rfl
      obtain ⟨S, hS⟩ : ∃ S, wr.heap.size = S := ⟨_, rfl⟩
      rw [hS] at hSk sz
      rw [hS]
      generalize (wr.alloc (.cells #[.int .i64 c, .int .i64 d] 2)) = wk at *
      have HBk := hide (And.intro hBk hSk)
      clear hBk hSk hS q1 q2 q3 hB
      go_loopw [9, 35] (fun s9 s35 wj => ∃ (j : Nat) (f : Bool) (x y : Int), j ≤ 2 ∧ s9 = .bool f ∧ s35 = .int .i64 j ∧ Hid (Cor (opR o) a b c d (2 * k + j) f x y) ∧ Hid (CorBox w wj a b c d x y ∧ Box wj S #[.int .i64 c, .int .i64 d] 2)) (fun _ s35 _ => 2 - (intOf s35).toNat)
      case atStart => exact ⟨0, f, x, y, by omega, rfl, rfl, hC, HBk⟩
      case round =>
        clear hC HBk
        obtain ⟨j, f, x, y, hj, rfl, rfl, hC, hB⟩ := hrel
        by_cases hlj : j < 2
        · have hjb : decide ((j : Int) < 2) = true := by simp; omega
          have q1 := hB.out.2.cell j (at2_cell c d j hlj)
          have q2 := hB.out.1.b3.cell 0 rfl
          have q3 := hB.out.1.b3.cell 1 rfl
          have q4 := hB.out.1.b3.frozen 0
          have q5 := hB.out.1.b3.frozen 1
          have q6 := hB.out.1.b2.frozen 0
          have q7 := hB.out.1.b2.frozen 1
          have q8 := hB.out.1.b2.cell 0 rfl
          have q9 := hB.out.1.b2.cell 1 rfl
          have sz2 := hB.out.2.lt
          obtain ⟨Y, hY⟩ : ∃ Y, at2 c d j = Y := ⟨_, rfl⟩
          obtain ⟨y0, y1⟩ : -1152921504606846976 ≤ Y ∧ Y ≤ 1152921504606846976 := by rw [← hY]; exact at2_bd j c0 c1 d0 d1
          rw [hY] at q1
          have hm : opR o (at2 a b k) (at2 c d j) = opR o X Y := by rw [HX.out, hY]
          have hnz : o = true → Y ≠ 0 := fun ho => by rw [← hY]; unfold at2; split; exact (HZ.out ho).1; exact (HZ.out ho).2
          have hp := prod_bd (a := X) (b := Y) (by omega) (by omega) (by omega) (by omega)
          have he := opR_err o X Y
          have hst := fun (he0 : (opR o X Y).2.2 = 0) (x' y' : Int) => Cor.step (x' := x') (y' := y') hC.out hlt hlj (by rw [hm]; exact he0)
          have hfl := fun (he0 : ¬ (opR o X Y).2.2 = 0) => Cor.fails hC.out hlt hlj (by rw [hm]; exact he0)
          rw [hm] at hst
          rw [HR.out] at hfl
          have K1 := hide (fun W => rwide_sgn X Y (by omega) (by omega) (by omega) (by omega) W)
          have K2 := hide (fun W => rwide_one X (by omega) (by omega) W)
          have K3 := hide (fun (h : o = true) W => rquotient_md X Y (hnz h) (by omega) (by omega) (by omega) (by omega) W)
          have K4 := hide (fun W => rquotient_md (X * Y) 1 (by omega) (by omega) (by omega) hp.1 hp.2 W)
          have hR1 : o = true → mdE X Y = opR o X Y := fun h => by unfold opR; rw [if_pos h]
          have hR2 : o = false → mdE (X * Y) 1 = opR o X Y := fun h => by unfold opR; rw [h]; rfl
          clear hp hY hnz hm
          have K5 : Hid (o = true → ∀ W, Gives Try.prog 94 #[.agg #[.bool (decide (X < 0)), .int .u64 ((X.natAbs : Int) / 18446744073709551616), .int .u64 ((X.natAbs : Int) % 18446744073709551616)], .int .i64 Y] W
              (.tuple #[.int .i64 (opR o X Y).1, .int .i64 (opR o X Y).2.1, .bool ((opR o X Y).2.2 == 0)])) := hide fun h W => by rw [← hR1 h]; exact K3.out h W
          have K6 : Hid (o = false → ∀ W, Gives Try.prog 94 #[.agg #[.bool (decide (X * Y < 0)), .int .u64 (((X * Y).natAbs : Int) / 18446744073709551616), .int .u64 (((X * Y).natAbs : Int) % 18446744073709551616)], .int .i64 1] W
              (.tuple #[.int .i64 (opR o X Y).1, .int .i64 (opR o X Y).2.1, .bool ((opR o X Y).2.2 == 0)])) := hide fun h W => by rw [← hR2 h]; exact K4.out W
          have hst' := hide hst
          have hfl' := hide hfl
          clear hR1 hR2 K3 K4 hst hfl
          generalize opR o X Y = m at *
          generalize X * Y = p at *
          obtain ⟨lo, hi, e⟩ := m
          simp only at K5 K6 hst' hfl' he
          have HB := hide hB.out
          clear hB
          rcases he with rfl | he
          · have hst2 := hide (hst'.out rfl)
            clear hst' hfl'
            cases o
            · have K7 := hide (K6.out rfl)
              clear K5 K6 K2
              cases f
              all_goals go_wp2_with (first | (go_at_call 84; (with_reducible refine (K1.out _).mono ?_); intro _) | (go_at_call 84; (with_reducible refine (K2.out _).mono ?_); intro _) | (go_at_call 94; (with_reducible refine (K7.out _).mono ?_); intro _))
              all_goals (first | (refine ⟨⟨j + 1, false, lo, hi, by omega, rfl, by go_num, hide (hst2.out _ _ ?_ ?_), hide ⟨?_, ?_⟩⟩, by simp [intOf]; omega⟩; (split <;> first | rfl | (simp_all; done) | (simp_all; omega)); (split <;> first | rfl | (simp_all; done) | (simp_all; omega)); (repeat (first | exact HB.out.1 | apply CorBox.set1 | apply CorBox.set0 | apply CorBox.ext' | apply CorBox.alloc' | (refine CorBox.far ?_ (by omega) _ _))); (repeat (first | exact HB.out.2 | apply Box.ext | apply Box.alloc | (refine Box.other ?_ (by omega) _ _))); done) | (refine ⟨⟨j + 1, false, lo, y, by omega, rfl, by go_num, hide (hst2.out _ _ ?_ ?_), hide ⟨?_, ?_⟩⟩, by simp [intOf]; omega⟩; (split <;> first | rfl | (simp_all; done) | (simp_all; omega)); (split <;> first | rfl | (simp_all; done) | (simp_all; omega)); (repeat (first | exact HB.out.1 | apply CorBox.set1 | apply CorBox.set0 | apply CorBox.ext' | apply CorBox.alloc' | (refine CorBox.far ?_ (by omega) _ _))); (repeat (first | exact HB.out.2 | apply Box.ext | apply Box.alloc | (refine Box.other ?_ (by omega) _ _))); done) | (refine ⟨⟨j + 1, false, x, hi, by omega, rfl, by go_num, hide (hst2.out _ _ ?_ ?_), hide ⟨?_, ?_⟩⟩, by simp [intOf]; omega⟩; (split <;> first | rfl | (simp_all; done) | (simp_all; omega)); (split <;> first | rfl | (simp_all; done) | (simp_all; omega)); (repeat (first | exact HB.out.1 | apply CorBox.set1 | apply CorBox.set0 | apply CorBox.ext' | apply CorBox.alloc' | (refine CorBox.far ?_ (by omega) _ _))); (repeat (first | exact HB.out.2 | apply Box.ext | apply Box.alloc | (refine Box.other ?_ (by omega) _ _))); done) | (refine ⟨⟨j + 1, false, x, y, by omega, rfl, by go_num, hide (hst2.out _ _ ?_ ?_), hide ⟨?_, ?_⟩⟩, by simp [intOf]; omega⟩; (split <;> first | rfl | (simp_all; done) | (simp_all; omega)); (split <;> first | rfl | (simp_all; done) | (simp_all; omega)); (repeat (first | exact HB.out.1 | apply CorBox.set1 | apply CorBox.set0 | apply CorBox.ext' | apply CorBox.alloc' | (refine CorBox.far ?_ (by omega) _ _))); (repeat (first | exact HB.out.2 | apply Box.ext | apply Box.alloc | (refine Box.other ?_ (by omega) _ _))); done))
            · have K7 := hide (K5.out rfl)
              clear K5 K6
              cases f
              all_goals go_wp2_with (first | (go_at_call 84; (with_reducible refine (K1.out _).mono ?_); intro _) | (go_at_call 84; (with_reducible refine (K2.out _).mono ?_); intro _) | (go_at_call 94; (with_reducible refine (K7.out _).mono ?_); intro _))
              all_goals (first | (refine ⟨⟨j + 1, false, lo, hi, by omega, rfl, by go_num, hide (hst2.out _ _ ?_ ?_), hide ⟨?_, ?_⟩⟩, by simp [intOf]; omega⟩; (split <;> first | rfl | (simp_all; done) | (simp_all; omega)); (split <;> first | rfl | (simp_all; done) | (simp_all; omega)); (repeat (first | exact HB.out.1 | apply CorBox.set1 | apply CorBox.set0 | apply CorBox.ext' | apply CorBox.alloc' | (refine CorBox.far ?_ (by omega) _ _))); (repeat (first | exact HB.out.2 | apply Box.ext | apply Box.alloc | (refine Box.other ?_ (by omega) _ _))); done) | (refine ⟨⟨j + 1, false, lo, y, by omega, rfl, by go_num, hide (hst2.out _ _ ?_ ?_), hide ⟨?_, ?_⟩⟩, by simp [intOf]; omega⟩; (split <;> first | rfl | (simp_all; done) | (simp_all; omega)); (split <;> first | rfl | (simp_all; done) | (simp_all; omega)); (repeat (first | exact HB.out.1 | apply CorBox.set1 | apply CorBox.set0 | apply CorBox.ext' | apply CorBox.alloc' | (refine CorBox.far ?_ (by omega) _ _))); (repeat (first | exact HB.out.2 | apply Box.ext | apply Box.alloc | (refine Box.other ?_ (by omega) _ _))); done) | (refine ⟨⟨j + 1, false, x, hi, by omega, rfl, by go_num, hide (hst2.out _ _ ?_ ?_), hide ⟨?_, ?_⟩⟩, by simp [intOf]; omega⟩; (split <;> first | rfl | (simp_all; done) | (simp_all; omega)); (split <;> first | rfl | (simp_all; done) | (simp_all; omega)); (repeat (first | exact HB.out.1 | apply CorBox.set1 | apply CorBox.set0 | apply CorBox.ext' | apply CorBox.alloc' | (refine CorBox.far ?_ (by omega) _ _))); (repeat (first | exact HB.out.2 | apply Box.ext | apply Box.alloc | (refine Box.other ?_ (by omega) _ _))); done) | (refine ⟨⟨j + 1, false, x, y, by omega, rfl, by go_num, hide (hst2.out _ _ ?_ ?_), hide ⟨?_, ?_⟩⟩, by simp [intOf]; omega⟩; (split <;> first | rfl | (simp_all; done) | (simp_all; omega)); (split <;> first | rfl | (simp_all; done) | (simp_all; omega)); (repeat (first | exact HB.out.1 | apply CorBox.set1 | apply CorBox.set0 | apply CorBox.ext' | apply CorBox.alloc' | (refine CorBox.far ?_ (by omega) _ _))); (repeat (first | exact HB.out.2 | apply Box.ext | apply Box.alloc | (refine Box.other ?_ (by omega) _ _))); done))
          · simp only [Prod.mk.injEq] at he
            obtain ⟨rfl, rfl, rfl⟩ := he
            obtain rfl := hfl'.out (by omega)
            cases o
            · have K7 := hide (K6.out rfl)
              clear K5 K6 K2
              go_wp2_with (first | (go_at_call 84; (with_reducible refine (K1.out _).mono ?_); intro _) | (go_at_call 84; (with_reducible refine (K2.out _).mono ?_); intro _) | (go_at_call 94; (with_reducible refine (K7.out _).mono ?_); intro _))
              refine bodyPost_give (by repeat (first | exact HB.out.1.up | apply Up.ext | apply Up.alloc | (refine Up.setCell ?_ (by simp; try omega) _))) rfl ⟨_, rcorners_read rfl rfl (by repeat (first | exact HB.out.1.b2 | apply Box.ext | apply Box.alloc | apply Box.pair0 | apply Box.pair1 | (refine Box.other ?_ (by omega) _ _))), rfl⟩
            · have K7 := hide (K5.out rfl)
              clear K5 K6
              go_wp2_with (first | (go_at_call 84; (with_reducible refine (K1.out _).mono ?_); intro _) | (go_at_call 84; (with_reducible refine (K2.out _).mono ?_); intro _) | (go_at_call 94; (with_reducible refine (K7.out _).mono ?_); intro _))
              refine bodyPost_give (by repeat (first | exact HB.out.1.up | apply Up.ext | apply Up.alloc | (refine Up.setCell ?_ (by simp; try omega) _))) rfl ⟨_, rcorners_read rfl rfl (by repeat (first | exact HB.out.1.b2 | apply Box.ext | apply Box.alloc | apply Box.pair0 | apply Box.pair1 | (refine Box.other ?_ (by omega) _ _))), rfl⟩
        · have hjb : decide ((j : Int) < 2) = false := by simp; omega
          obtain rfl : j = 2 := by omega
          go_wp2
          refine ⟨⟨k + 1, f, x, y, by omega, rfl, by go_num, hide (by rw [show 2 * (k + 1) = 2 * k + 2 by omega]; exact hC.out), hide hB.out.1⟩, by simp [intOf]; omega⟩
    · have hkb : decide ((k : Int) < 2) = false := by simp; omega
      obtain rfl : k = 2 := by omega
      have HE := hide (hC.out.done)
      have z0 := hB.out.b3.cell 0 rfl
      have z1 := hB.out.b3.cell 1 rfl
      have y0 := hB.out.b2.cell 0 rfl
      have y1 := hB.out.b2.cell 1 rfl
      have y2 := hB.out.b2.frozen 0
      have y3 := hB.out.b2.frozen 1
      have y4 := hB.out.b2.lt
      go_wp2
      refine bodyPost_give (by repeat (first | exact hB.out.up | apply Up.ext | apply Up.alloc | (refine Up.setCell ?_ (by simp; try omega) _))) rfl ⟨_, rcorners_read rfl rfl (by repeat (first | exact hB.out.b2 | apply Box.ext | apply Box.alloc | apply Box.pair0 | apply Box.pair1 | (refine Box.other ?_ (by omega) _ _))), (by have h := HR.out; rw [HE.out] at h; subst h; rfl)⟩
end Go.Proofs.Ytfpdnmfklmgmfaa
