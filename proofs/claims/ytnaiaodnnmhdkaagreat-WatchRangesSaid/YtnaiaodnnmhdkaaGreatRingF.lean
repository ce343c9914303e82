/- Several texts in one. -/
import Derived.Test.YtnaiaodnnmhdkaaGreatModk
import Derived.Test.YtnaiaodnnmhdkaaGreatBox
import Derived.Test.YtnaiaodnnmhdkaaGreatTail
import Derived.Test.YtnaiaodnnmhdkaaGreatFloat
/- The statements' own source of numbers: a ring of numbers that came in. Conditions: how often it was asked, and that what came in lies as it lay. -/
namespace Go.Proofs.YtnaiaodnnmhdkaaGreat
set_option linter.unusedVariables false
set_option linter.unusedSimpArgs false
open Go.RowKit

theorem mod_any (n m : Int) (n0 : -9223372036854775808 ≤ n) (n1 : n ≤ 9223372036854775807) (m0 : 0 < m) (m1 : m ≤ 9223372036854775807) (w : World) :
    Gives Tryz.prog 40 #[.int .i64 n, .int .i64 m] w (.int .i64 (n % m)) := by
  by_cases hn : n < 0
  · obtain ⟨h1, h2, h3⟩ := tmod_neg n m hn m0
    have H3 := hide h3
    clear h3
    (unfold Gives; go_enter Tryz.func40, Tryz.ntmps40)
    go_wp2
    all_goals (go_ret; refine ⟨ret_int ?_, (by repeat (first | with_reducible exact Up.refl _ | with_reducible apply Up.plus | apply Up.ext | apply Up.alloc | apply Up.drew | (refine Up.setCell ?_ (by simp; try omega) _)))⟩)
    all_goals (have h3 := H3.out; (first | rw [if_pos (by omega)] at h3 | rw [if_neg (by omega)] at h3); omega)
  · have h1 := Int.emod_nonneg n (show m ≠ 0 by omega)
    have h2 := Int.emod_lt_of_pos n m0
    (unfold Gives; go_enter Tryz.func40, Tryz.ntmps40)
    go_wp2
    all_goals (go_ret; refine ⟨ret_int ?_, (by repeat (first | with_reducible exact Up.refl _ | with_reducible apply Up.plus | apply Up.ext | apply Up.alloc | apply Up.drew | (refine Up.setCell ?_ (by simp; try omega) _)))⟩)
    all_goals rfl

/-- numbers that came in, in old blocks -/
def Nums (w : World) (sl : Value) : Prop := sl = .slice none 0 0 ∨ (∃ (a : Addr) (c : Nat), sl = .slice (some a) 0 c) ∨ ∃ (b o n c : Nat), sl = .slice (some ⟨b, o, none⟩) n c ∧ 1 ≤ n ∧ b < w.heap.size ∧ n ≤ 9223372036854775807 ∧ ∀ i, i < n → ∃ z : Int, (-9223372036854775808 ≤ z ∧ z ≤ 9223372036854775807) ∧ w.cell? ⟨b, o + i, none⟩ = some (.int .i64 z)

/-- a number from lo to hi is handed back; the ring has counted -/
def RingPost (W : World) (B : Nat) (t : Int) (lo hi : Int) (e : Ending) (W' : World) : Prop := ∃ (x : Int) (p : Ext), lo ≤ x ∧ x ≤ hi ∧ e = .returned (.int .i64 x) ∧ W' = ext (W.setCell ⟨B, 1, none⟩ (.int .i64 t)) p

@[go_sem] theorem set_again (w : World) (b o : Nat) (v v' : Value) : (w.setCell ⟨b, o, none⟩ v).setCell ⟨b, o, none⟩ v' = w.setCell ⟨b, o, none⟩ v' := by
  unfold World.setCell
  congr 1
  apply Array.ext_getElem?
  intro k
  simp only [Array.getElem?_modify]
  by_cases h : b = k
  · subst h
    simp only [if_true, Option.map_map]
    cases w.heap[b]? with
    | none => rfl
    | some x => cases x <;> simp
  · simp [h]
theorem Box.two1 {w : World} {b : Nat} {x y : Value} {t : TypeId} (h : Box w b #[x, y] t) (v : Value) : Box (w.setCell ⟨b, 1, none⟩ v) b #[x, v] t := h.set 1 v
theorem up_cell {w W : World} (hu : Up w W) {b o : Nat} (hb : b < w.heap.size) : W.cell? ⟨b, o, none⟩ = w.cell? ⟨b, o, none⟩ := World.cell?_of_block (hu.below.block b hb)

set_option maxHeartbeats 4000000 in
theorem next_any (w : World) (sl : Value) (hN : Nums w sl) (B : Nat) (t m : Int) (W : World) (hu : Up w W) (hb : Box W B #[sl, .int .i64 t] 146) (hB : w.heap.size ≤ B) (t0 : 0 ≤ t) (t1 : t ≤ 1000000) (m0 : 1 ≤ m) (m1 : m ≤ 9223372036854775807) :
    Calls Tryz.prog 56 #[.pointer (some ⟨B, 0, none⟩), .int .i64 m] W (RingPost W B (t + 1) 0 (m - 1)) := by
  have c0 := hb.cell 0 rfl
  have c1 := hb.cell 1 rfl
  have f1 := hb.frozen 1
  have lB := hb.lt
  have hU := hide hu
  obtain ⟨X, hX⟩ : ∃ X, (t + 1) * 7919 % 10007 = X := ⟨_, rfl⟩
  have X0 : 0 ≤ X := by omega
  have X1 : X < 10007 := by omega
  rcases hN with rfl | ⟨a, c, rfl⟩ | ⟨b, o, n, c, rfl, hn1, hbw, hn, hcells⟩
  · clear hu hb
    go_enter Tryz.func56, Tryz.ntmps56
    go_wp2
    go_ret
    exact ⟨_, _, Int.emod_nonneg _ (by omega), (by have := Int.emod_lt_of_pos X (show 0 < m by omega); omega), rfl, ext_refl _⟩
  · clear hu hb
    go_enter Tryz.func56, Tryz.ntmps56
    go_wp2
    go_ret
    exact ⟨_, _, Int.emod_nonneg _ (by omega), (by have := Int.emod_lt_of_pos X (show 0 < m by omega); omega), rfl, ext_refl _⟩
  · have HC := hide hcells
    clear hcells hb
    · obtain ⟨j, hj, hjn⟩ : ∃ j : Nat, (t + 1) % (n : Int) = j ∧ j < n := by
        have h1 := Int.emod_nonneg (t + 1) (show (n : Int) ≠ 0 by omega)
        have h2 := Int.emod_lt_of_pos (t + 1) (show (0 : Int) < n by omega)
        obtain ⟨j, hj⟩ := Int.eq_ofNat_of_zero_le h1
        exact ⟨j, hj, by omega⟩
      obtain ⟨z, ⟨z0, z1⟩, hz⟩ := HC.out j hjn
      have cz : W.cell? ⟨b, o + j, none⟩ = some (.int .i64 z) := (up_cell hU.out hbw).trans hz
      have hne : b ≠ B := by omega
      have hne2 : B ≠ b := by omega
      have hbW : b < W.heap.size := by omega
      have j0 : (0 : Int) ≤ (j : Int) := by omega
      have j1 : (j : Int) < n := by omega
      obtain ⟨y, hy, y0, y1⟩ : ∃ y, z % 1048576 = y ∧ 0 ≤ y ∧ y < 1048576 := ⟨_, rfl, by omega, by omega⟩
      have K := hide (fun W => mod_any z 1048576 z0 z1 (by omega) (by omega) W)
      rw [hy] at K
      have q0 : 0 ≤ (t + 1) / (n : Int) := Int.ediv_nonneg (by omega) (by omega)
      have q1 : (t + 1) / (n : Int) ≤ 1000001 := Int.ediv_le_of_le_mul (by omega) (by
        have := Int.mul_le_mul_of_nonneg_left (show (1 : Int) ≤ n by omega) (show (0 : Int) ≤ 1000001 by omega)
        omega)
      obtain ⟨Q, hQ⟩ : ∃ Q, (t + 1) / (n : Int) = Q := ⟨_, rfl⟩
      rw [hQ] at q0 q1
      have d0 : 0 ≤ y / (1 + Q) := Int.ediv_nonneg (by omega) (by omega)
      have d1 : y / (1 + Q) ≤ 1048576 := Int.ediv_le_of_le_mul (by omega) (by
        have := Int.mul_le_mul_of_nonneg_left (show (1 : Int) ≤ 1 + Q by omega) (show (0 : Int) ≤ 1048576 by omega)
        omega)
      obtain ⟨D, hD⟩ : ∃ D, y / (1 + Q) = D := ⟨_, rfl⟩
      rw [hD] at d0 d1
      clear hz hy hu
      go_enter Tryz.func56, Tryz.ntmps56
      go_wp2_with fail
      ((first | with_reducible refine wp_region_ext2 (by kernel_rfl) (by kernel_rfl) ?_ | refine wp_region_ext (by kernel_rfl) (by kernel_rfl) ?_); (repeat (go_big_quiet_step ((go_at_call 40; exact Gives.inRegion (K.out _))))); refine wpQuiet_nil ?_; intro _ hw'; obtain ⟨_, hw''⟩ := hw'; subst hw'')
      go_wp2
      go_ret
      exact ⟨_, _, Int.emod_nonneg _ (by omega), (by have := Int.emod_lt_of_pos (X + D) (show 0 < m by omega); omega), rfl, rfl⟩

/-- a span made of numbers -/
def SpanPost (W : World) (B : Nat) (t : Int) (about wide : Int) (e : Ending) (W' : World) : Prop := ∃ (x y : Int) (p : Ext), about - wide ≤ x ∧ x ≤ about ∧ x ≤ y ∧ y ≤ x + wide ∧ e = .returned (.agg #[.int .i64 x, .int .i64 y]) ∧ W' = ext (W.setCell ⟨B, 1, none⟩ (.int .i64 t)) p

theorem SpanPost.mk {W : World} {B : Nat} {t about wide x y : Int} {W' : World} (h1 : about - wide ≤ x) (h2 : x ≤ about) (h3 : x ≤ y) (h4 : y ≤ x + wide) (u : Up (W.setCell ⟨B, 1, none⟩ (.int .i64 t)) W') : SpanPost W B t about wide (.returned (.agg #[.int .i64 x, .int .i64 y])) W' :=
  let ⟨p, hp⟩ := u; ⟨x, y, p, h1, h2, h3, h4, rfl, hp⟩

theorem inspan_any (a b n : Int) (h0 : -1000000000000 ≤ a) (h1 : a ≤ b) (h2 : b ≤ 1000000000000) (n0 : -9223372036854775808 ≤ n ∧ n ≤ 9223372036854775807) :
    ∃ x : Int, a ≤ x ∧ x ≤ b ∧ ∀ w : World, Gives Tryz.prog 108 #[.agg #[.int .i64 a, .int .i64 b], .int .i64 n] w (.int .i64 x) := by
  obtain ⟨u, hu, u0, u1⟩ : ∃ u, n % (b - a + 1) = u ∧ 0 ≤ u ∧ u < b - a + 1 := ⟨_, rfl, Int.emod_nonneg _ (by omega), Int.emod_lt_of_pos _ (by omega)⟩
  have K1 := hide (fun W => mod64_any n (b - a + 1) n0.1 n0.2 (by omega) (by omega) W)
  rw [hu] at K1
  clear hu
  refine ⟨a + u, by omega, by omega, fun w => ?_⟩
  (unfold Gives; go_enter Tryz.func108, Tryz.ntmps108)
  go_wp2_with fail
  ((first | with_reducible refine wp_region_ext2 (by kernel_rfl) (by kernel_rfl) ?_ | refine wp_region_ext (by kernel_rfl) (by kernel_rfl) ?_); (repeat (go_big_quiet_step ((go_at_call 30; with_reducible exact Gives.inRegion (K1.out _))))); refine wpQuiet_nil ?_; intro _ hw'; obtain ⟨_, hw''⟩ := hw'; subst hw'')
  go_wp2
  go_ret
  exact ⟨rfl, (by repeat (first | with_reducible exact Up.refl _ | with_reducible apply Up.plus | apply Up.ext | apply Up.alloc | apply Up.drew | (refine Up.setCell ?_ (by simp; try omega) _)))⟩

theorem Nums.form {w : World} {v : Value} (h : Nums w v) : ∃ (a : Option Addr) (n c : Nat), v = .slice a n c := by
  rcases h with rfl | ⟨a, c, rfl⟩ | ⟨b, o, n, c, rfl, _⟩ <;> exact ⟨_, _, _, rfl⟩
theorem newring_any (a : Option Addr) (n c : Nat) (w : World) : Calls Tryz.prog 39 #[.slice a n c] w
    fun e w' => e = .returned (.pointer (some ⟨w.heap.size, 0, none⟩)) ∧ w' = w.alloc (.cells #[.slice a n c, .int .i64 0] 146) := by
  go_enter Tryz.func39, Tryz.ntmps39
  go_wp2
  go_ret
  exact ⟨rfl, rfl⟩
end Go.Proofs.YtnaiaodnnmhdkaaGreat

/- The statements' source of numbers in regions that draw their order; areas and places made of numbers. Conditions: how often it was asked, and that what came in lies as it lay. -/
namespace Go.Proofs.YtnaiaodnnmhdkaaGreat
set_option linter.unusedVariables false
set_option linter.unusedSimpArgs false
open Go.RowKit

/-- v is handed back, the ring has been asked at most k times -/
def RPost (W : World) (B : Nat) (t k : Int) (R : Value → Prop) (e : Ending) (W' : World) : Prop := ∃ (v : Value) (t' : Int) (p : Ext), e = .returned v ∧ R v ∧ 0 ≤ t' ∧ t' ≤ t + k ∧ W' = ext (W.setCell ⟨B, 1, none⟩ (.int .i64 t')) p
theorem RPost.mk {W : World} {B : Nat} {t k t' : Int} {R : Value → Prop} {v : Value} {W' : World} (hR : R v) (h1 : 0 ≤ t') (h2 : t' ≤ t + k) (u : Up (W.setCell ⟨B, 1, none⟩ (.int .i64 t')) W') : RPost W B t k R (.returned v) W' :=
  let ⟨p, hp⟩ := u; ⟨v, t', p, rfl, hR, h1, h2, hp⟩
/-- the contract of a function that asks the ring at most k times -/
def RingGives (f : FuncId) (args : Array Value) (w : World) (sl : Value) (B : Nat) (k : Int) (R : Value → Prop) : Prop :=
  ∀ t W, Up w W → Box W B #[sl, .int .i64 t] 146 → 0 ≤ t → t + k ≤ 100000 → Calls Tryz.prog f args W (RPost W B t k R)
theorem RingGives.mono {f : FuncId} {args : Array Value} {w : World} {sl : Value} {B : Nat} {k : Int} {R R' : Value → Prop} (h : RingGives f args w sl B k R) (hR : ∀ v, R v → R' v) : RingGives f args w sl B k R' :=
  fun t W hu hb t0 t1 => (h t W hu hb t0 t1).mono fun _ _ ⟨v, t', p, he, hv, h1, h2, hw⟩ => ⟨v, t', p, he, hR v hv, h1, h2, hw⟩

def RInt (lo hi : Int) (v : Value) : Prop := ∃ x : Int, lo ≤ x ∧ x ≤ hi ∧ v = .int .i64 x
def RSpan (about wide : Int) (v : Value) : Prop := ∃ x y : Int, about - wide ≤ x ∧ x ≤ about ∧ x ≤ y ∧ y ≤ x + wide ∧ v = .agg #[.int .i64 x, .int .i64 y]

theorem next_r {w : World} {sl : Value} (hN : Nums w sl) {B : Nat} (hB : w.heap.size ≤ B) {m : Int} (m0 : 1 ≤ m) (m1 : m ≤ 9223372036854775807) :
    RingGives 56 #[.pointer (some ⟨B, 0, none⟩), .int .i64 m] w sl B 1 (RInt 0 (m - 1)) := fun t W hu hb t0 t1 =>
  (next_any w sl hN B t m W hu hb hB t0 (by omega) m0 m1).mono fun _ _ ⟨x, p, x0, x1, he, hw⟩ => ⟨_, _, p, he, ⟨x, x0, x1, rfl⟩, by omega, by omega, hw⟩
/-- the worlds in which the ring has been asked, and that have grown -/
def ringBase (w : World) (B : Nat) (x : Int × Ext) : World := ext (w.setCell ⟨B, 1, none⟩ (.int .i64 x.1)) x.2
def RingAt (w : World) (B : Nat) (n : Int) (W : World) : Prop := ∃ (t : Int) (p : Ext), 0 ≤ t ∧ t ≤ n ∧ W = ext (w.setCell ⟨B, 1, none⟩ (.int .i64 t)) p
theorem cls_ring (w : World) (B : Nat) (n : Int) : Cls (fun W => ∃ x, W = ringBase w B x) (RingAt w B n) :=
  ⟨fun _ ⟨t, p, _, _, h⟩ => ⟨(t, p), h⟩, fun _ q ⟨t, p, h0, h1, h⟩ => ⟨t, p.plus q, h0, h1, by rw [h, ext_ext]⟩⟩
theorem set_same {w : World} {b o : Nat} {c : Array Value} {t : TypeId} {v : Value} (h : Box w b c t) (hv : c[o]? = some v) : w.setCell ⟨b, o, none⟩ v = w := by
  unfold World.setCell
  have hm : ∀ f : Obj → Obj, f (.cells c t (0, 0)) = .cells c t (0, 0) → w.heap.modify b f = w.heap := fun f hf => by
    apply Array.ext_getElem?
    intro k
    simp only [Array.getElem?_modify]
    split
    · rename_i hk
      subst hk
      rw [show w.heap[b]? = some (.cells c t (0, 0)) from h]
      simp [hf]
    · rfl
  simp only
  rw [hm]
  simp only
  have : c.setIfInBounds o v = c := by
    apply Array.ext_getElem?
    intro k
    by_cases hk : o = k
    · subst hk
      obtain ⟨hlt, he⟩ := Array.getElem?_eq_some_iff.1 hv
      simp [hlt, he]
    · simp [Array.getElem?_setIfInBounds_ne hk]
  simp [this]
theorem ringAt_drew {w : World} {B : Nat} {sl : Value} {t n : Int} {T : TypeId} (h : Box w B #[sl, .int .i64 t] T) (h0 : 0 ≤ t) (h1 : t ≤ n) : RingAt w B n w.drew :=
  ⟨t, ⟨w.drawn + 1, #[]⟩, h0, h1, by rw [set_same h (o := 1) (v := .int .i64 t) rfl]; exact ext_one w⟩

/-- a call that asks the ring, in such a region -/
theorem ring_call {f : FuncId} {args : Array Value} {w wz : World} {sl : Value} {B B0 : Nat} {k t0 n : Int} {R : Value → Prop} (hK : RingGives f args w sl B k R) (hu : Up w wz) (hb : Box wz B #[sl, .int .i64 t0] 146) (hB : w.heap.size ≤ B) (hB0 : B < B0) (hn : n + k ≤ 100000) :
    ∀ W, RingAt wz B n W → Calls Tryz.prog f args W (fun e W' => ∃ v, e = .returned v ∧ R v ∧ RingAt wz B (n + k) W' ∧ Stays B0 W W') := fun W ⟨t, p, h0, h1, hW⟩ => by
  subst hW
  refine (hK t _ ((hu.setCell (q := ⟨B, 1, none⟩) hB _).ext p) ((hb.two1 (.int .i64 t)).ext p) h0 (by omega)).mono ?_
  rintro e W' ⟨v, t', p', he, hv, h2, h3, rfl⟩
  refine ⟨v, he, hv, ⟨t', p.plus p', by omega, by omega, ?_⟩, ?_⟩
  · rw [ext_setCell _ _ _ _ _ (by simpa using hb.lt), set_again, ext_ext]
  · refine ⟨by rw [ext_size]; simp, fun b c T hbb hx => Box.ext (Box.other hx (by omega) 1 _) p'⟩

theorem RingAt.box {w : World} {B : Nat} {n : Int} {W : World} (h : RingAt w B n W) {sl : Value} {t : Int} {T : TypeId} (hb : Box w B #[sl, .int .i64 t] T) : ∃ t' : Int, 0 ≤ t' ∧ t' ≤ n ∧ Box W B #[sl, .int .i64 t'] T :=
  let ⟨t', p, h0, h1, hW⟩ := h; ⟨t', h0, h1, hW ▸ ((hb.two1 (.int .i64 t')).ext p)⟩
theorem RingAt.other {w : World} {B : Nat} {n : Int} {W : World} (h : RingAt w B n W) {b : Nat} {c : Array Value} {T : TypeId} (hb : Box w b c T) (hne : b ≠ B) : Box W b c T :=
  let ⟨_, p, _, _, hW⟩ := h; hW ▸ ((hb.other hne 1 _).ext p)
theorem RingAt.up {w0 w : World} {B : Nat} {n : Int} {W : World} (h : RingAt w B n W) (hu : Up w0 w) (hB : w0.heap.size ≤ B) : Up w0 W :=
  let ⟨_, p, _, _, hW⟩ := h; hW ▸ ((hu.setCell (q := ⟨B, 1, none⟩) hB _).ext p)
theorem RingAt.size {w : World} {B : Nat} {n : Int} {W : World} (h : RingAt w B n W) : w.heap.size ≤ W.heap.size :=
  let ⟨_, p, _, _, hW⟩ := h; by rw [hW, ext_size]; simp

def RArea (most wide : Int) (v : Value) : Prop := ∃ x0 x1 y0 y1 : Int, (-most - wide ≤ x0 ∧ x0 ≤ x1 ∧ x1 ≤ most + wide) ∧ (-most - wide ≤ y0 ∧ y0 ≤ y1 ∧ y1 ≤ most + wide) ∧ v = .agg #[.int .i64 x0, .int .i64 x1, .int .i64 y0, .int .i64 y1]
def RVec (a b c d : Int) (v : Value) : Prop := ∃ x y : Int, a ≤ x ∧ x ≤ b ∧ c ≤ y ∧ y ≤ d ∧ v = .agg #[.int .i64 x, .int .i64 y]
end Go.Proofs.YtnaiaodnnmhdkaaGreat

