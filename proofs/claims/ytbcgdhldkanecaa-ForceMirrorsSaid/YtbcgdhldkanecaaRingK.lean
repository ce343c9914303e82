/- Several texts in one. -/
import Derived.Test.YtbcgdhldkanecaaRing
import Derived.Test.YtbcgdhldkanecaaFloat
import Derived.Deep.AppendLies
/- The statements' source of numbers in regions that draw their order; areas and places made of numbers. Conditions: how often it was asked, and that what came in lies as it lay. -/
namespace Go.Proofs.Ytbcgdhldkanecaa
open Go.RowKit

/-- v is handed back, the ring has been asked at most k times -/
def RPost (W : World) (B : Nat) (t k : Int) (R : Value → Prop) (e : Ending) (W' : World) : Prop := ∃ (v : Value) (t' : Int) (p : Ext), e = .returned v ∧ R v ∧ 0 ≤ t' ∧ t' ≤ t + k ∧ W' = ext (W.setCell ⟨B, 1, none⟩ (.int .i64 t')) p
theorem RPost.mk {W : World} {B : Nat} {t k t' : Int} {R : Value → Prop} {v : Value} {W' : World} (hR : R v) (h1 : 0 ≤ t') (h2 : t' ≤ t + k) (u : Up (W.setCell ⟨B, 1, none⟩ (.int .i64 t')) W') : RPost W B t k R (.returned v) W' :=
  let ⟨p, hp⟩ := u; ⟨v, t', p, rfl, hR, h1, h2, hp⟩
/-- the contract of a function that asks the ring at most k times -/
def RingGives (f : FuncId) (args : Array Value) (w : World) (sl : Value) (B : Nat) (k : Int) (R : Value → Prop) : Prop :=
  ∀ t W, Up w W → Box W B #[sl, .int .i64 t] 81 → 0 ≤ t → t + k ≤ 100000 → Calls Try.prog f args W (RPost W B t k R)
theorem RingGives.mono {f : FuncId} {args : Array Value} {w : World} {sl : Value} {B : Nat} {k : Int} {R R' : Value → Prop} (h : RingGives f args w sl B k R) (hR : ∀ v, R v → R' v) : RingGives f args w sl B k R' :=
  fun t W hu hb t0 t1 => (h t W hu hb t0 t1).mono fun _ _ ⟨v, t', p, he, hv, h1, h2, hw⟩ => ⟨v, t', p, he, hR v hv, h1, h2, hw⟩

def RInt (lo hi : Int) (v : Value) : Prop := ∃ x : Int, lo ≤ x ∧ x ≤ hi ∧ v = .int .i64 x
def RSpan (about wide : Int) (v : Value) : Prop := ∃ x y : Int, about - wide ≤ x ∧ x ≤ about ∧ x ≤ y ∧ y ≤ x + wide ∧ v = .agg #[.int .i64 x, .int .i64 y]

theorem next_r {w : World} {sl : Value} (hN : Nums w sl) {B : Nat} (hB : w.heap.size ≤ B) {m : Int} (m0 : 1 ≤ m) (m1 : m ≤ 9223372036854775807) :
    RingGives 42 #[.pointer (some ⟨B, 0, none⟩), .int .i64 m] w sl B 1 (RInt 0 (m - 1)) := fun t W hu hb t0 t1 =>
  (next_any w sl hN B t m W hu hb hB t0 (by omega) m0 m1).mono fun _ _ ⟨x, p, x0, x1, he, hw⟩ => ⟨_, _, p, he, ⟨x, x0, x1, rfl⟩, by omega, by omega, hw⟩
theorem range_r {w : World} {sl : Value} (hN : Nums w sl) {B : Nat} (hB : w.heap.size ≤ B) {lo hi : Int} (l0 : -1000000000000 ≤ lo) (l1 : lo ≤ hi) (l2 : hi ≤ 1000000000000) :
    RingGives 12 #[.pointer (some ⟨B, 0, none⟩), .int .i64 lo, .int .i64 hi] w sl B 1 (RInt lo hi) := fun t W hu hb t0 t1 =>
  (range_any w sl hN B t lo hi W hu hb hB t0 (by omega) l0 l1 l2).mono fun _ _ ⟨x, p, x0, x1, he, hw⟩ => ⟨_, _, p, he, ⟨x, x0, x1, rfl⟩, by omega, by omega, hw⟩
theorem spanof_r {w : World} {sl : Value} (hN : Nums w sl) {B : Nat} (hB : w.heap.size ≤ B) {about wide : Int} (a0 : -1000000 ≤ about) (a1 : about ≤ 1000000) (w0 : 0 ≤ wide) (w1 : wide ≤ 1000000) :
    RingGives 48 #[.pointer (some ⟨B, 0, none⟩), .int .i64 about, .int .i64 wide] w sl B 2 (RSpan about wide) := fun t W hu hb t0 t1 =>
  (spanof_any w sl hN B t about wide W hu hb hB t0 (by omega) a0 a1 w0 w1).mono fun _ _ ⟨x, y, p, x0, x1, x2, x3, he, hw⟩ => ⟨_, _, p, he, ⟨x, y, x0, x1, x2, x3, rfl⟩, by omega, by omega, hw⟩

/-- the worlds in which the ring has been asked, and that have grown -/
def ringBase (w : World) (B : Nat) (x : Int × Ext) : World := ext (w.setCell ⟨B, 1, none⟩ (.int .i64 x.1)) x.2
def RingAt (w : World) (B : Nat) (n : Int) (W : World) : Prop := ∃ (t : Int) (p : Ext), 0 ≤ t ∧ t ≤ n ∧ W = ext (w.setCell ⟨B, 1, none⟩ (.int .i64 t)) p
theorem cls_ring (w : World) (B : Nat) (n : Int) : Cls (fun W => ∃ x, W = ringBase w B x) (RingAt w B n) :=
  ⟨fun _ ⟨t, p, _, _, h⟩ => ⟨(t, p), h⟩, fun _ q ⟨t, p, h0, h1, h⟩ => ⟨t, p.plus q, h0, h1, by rw [h, ext_ext]⟩⟩
theorem set_same {w : World} {b o : Nat} {c : Array Value} {t : TypeId} {v : Value} (h : Box w b c t) (hv : c[o]? = some v) : w.setCell ⟨b, o, none⟩ v = w := by
  unfold World.setCell
  have hm : ∀ f : Obj → Obj, f (.cells c t (0, 0)) = .cells c t (0, 0) → w.heap.modify b f = w.heap := fun f hf => by
    apply Array.ext_getElem?
    intro k
    simp only [Array.getElem?_modify]
    split
    · rename_i hk
      subst hk
      rw [show w.heap[b]? = some (.cells c t (0, 0)) from h]
      simp [hf]
    · rfl
  simp only
  rw [hm]
  simp only
  have : c.setIfInBounds o v = c := by
    apply Array.ext_getElem?
    intro k
    by_cases hk : o = k
    · subst hk
      obtain ⟨hlt, he⟩ := Array.getElem?_eq_some_iff.1 hv
      simp [hlt, he]
    · simp [Array.getElem?_setIfInBounds_ne hk]
  simp [this]
theorem ringAt_drew {w : World} {B : Nat} {sl : Value} {t n : Int} {T : TypeId} (h : Box w B #[sl, .int .i64 t] T) (h0 : 0 ≤ t) (h1 : t ≤ n) : RingAt w B n w.drew :=
  ⟨t, ⟨w.drawn + 1, #[]⟩, h0, h1, by rw [set_same h (o := 1) (v := .int .i64 t) rfl]; exact ext_one w⟩

/-- a call that asks the ring, in such a region -/
theorem ring_call {f : FuncId} {args : Array Value} {w wz : World} {sl : Value} {B B0 : Nat} {k t0 n : Int} {R : Value → Prop} (hK : RingGives f args w sl B k R) (hu : Up w wz) (hb : Box wz B #[sl, .int .i64 t0] 81) (hB : w.heap.size ≤ B) (hB0 : B < B0) (hn : n + k ≤ 100000) :
    ∀ W, RingAt wz B n W → Calls Try.prog f args W (fun e W' => ∃ v, e = .returned v ∧ R v ∧ RingAt wz B (n + k) W' ∧ Stays B0 W W') := fun W ⟨t, p, h0, h1, hW⟩ => by
  subst hW
  refine (hK t _ ((hu.setCell (q := ⟨B, 1, none⟩) hB _).ext p) ((hb.two1 (.int .i64 t)).ext p) h0 (by omega)).mono ?_
  rintro e W' ⟨v, t', p', he, hv, h2, h3, rfl⟩
  refine ⟨v, he, hv, ⟨t', p.plus p', by omega, by omega, ?_⟩, ?_⟩
  · rw [ext_setCell _ _ _ _ _ (by simpa using hb.lt), set_again, ext_ext]
  · refine ⟨by rw [ext_size]; simp, fun b c T hbb hx => Box.ext (Box.other hx (by omega) 1 _) p'⟩

theorem RingAt.box {w : World} {B : Nat} {n : Int} {W : World} (h : RingAt w B n W) {sl : Value} {t : Int} {T : TypeId} (hb : Box w B #[sl, .int .i64 t] T) : ∃ t' : Int, 0 ≤ t' ∧ t' ≤ n ∧ Box W B #[sl, .int .i64 t'] T :=
  let ⟨t', p, h0, h1, hW⟩ := h; ⟨t', h0, h1, hW ▸ ((hb.two1 (.int .i64 t')).ext p)⟩
theorem RingAt.other {w : World} {B : Nat} {n : Int} {W : World} (h : RingAt w B n W) {b : Nat} {c : Array Value} {T : TypeId} (hb : Box w b c T) (hne : b ≠ B) : Box W b c T :=
  let ⟨_, p, _, _, hW⟩ := h; hW ▸ ((hb.other hne 1 _).ext p)
theorem RingAt.up {w0 w : World} {B : Nat} {n : Int} {W : World} (h : RingAt w B n W) (hu : Up w0 w) (hB : w0.heap.size ≤ B) : Up w0 W :=
  let ⟨_, p, _, _, hW⟩ := h; hW ▸ ((hu.setCell (q := ⟨B, 1, none⟩) hB _).ext p)
theorem RingAt.size {w : World} {B : Nat} {n : Int} {W : World} (h : RingAt w B n W) : w.heap.size ≤ W.heap.size :=
  let ⟨_, p, _, _, hW⟩ := h; by rw [hW, ext_size]; simp

def RArea (most wide : Int) (v : Value) : Prop := ∃ x0 x1 y0 y1 : Int, (-most - wide ≤ x0 ∧ x0 ≤ x1 ∧ x1 ≤ most + wide) ∧ (-most - wide ≤ y0 ∧ y0 ≤ y1 ∧ y1 ≤ most + wide) ∧ v = .agg #[.int .i64 x0, .int .i64 x1, .int .i64 y0, .int .i64 y1]
theorem areaof_r {w : World} {sl : Value} (hN : Nums w sl) {B : Nat} (hB : w.heap.size ≤ B) {most wide : Int} (a0 : 0 ≤ most) (a1 : most ≤ 100000) (w0 : 0 ≤ wide) (w1 : wide ≤ 100000) :
    RingGives 21 #[.pointer (some ⟨B, 0, none⟩), .int .i64 most, .int .i64 wide] w sl B 6 (RArea most wide) := fun t W hu hb t0 t1 => by
  have K := hide (fun t W hu hb t0 t1 => range_any w sl hN B t (-most) most W hu hb hB t0 t1 (by omega) (by omega) (by omega))
  have KS := hide (fun t about W hu hb t0 t1 a0 a1 => spanof_any w sl hN B t about wide W hu hb hB t0 t1 a0 a1 w0 (by omega))
  have HU := hide (And.intro hu hb)
  have lB := hb.lt
  clear hN hu hb
  go_enter Try.func21, Try.ntmps21
  go_wp2_with (first | (go_at_call 12; refine (K.out _ _ (by repeat (first | exact HU.out.1 | apply Up.ext | apply Up.alloc | (refine Up.setCell ?_ (by simp; try omega) _))) (by repeat (first | exact HU.out.2 | apply Box.ext | apply Box.alloc | apply Box.two1 | (refine Box.other ?_ (by omega) _ _))) (by omega) (by omega)).mono ?_; rintro _ _ ⟨x, p, x0, x1, rfl, rfl⟩) | (go_at_call 48; refine (KS.out _ _ _ (by repeat (first | exact HU.out.1 | apply Up.ext | apply Up.alloc | (refine Up.setCell ?_ (by simp; try omega) _))) (by repeat (first | exact HU.out.2 | apply Box.ext | apply Box.alloc | apply Box.two1 | (refine Box.other ?_ (by omega) _ _))) (by omega) (by omega) (by omega) (by omega)).mono ?_; rintro _ _ ⟨u, v, p, u0, u1, u2, u3, rfl, rfl⟩))
  rename_i X1 P2 X01 X11 U1 V1 P1 U01 U11 U21 U31 P0
  exact bodyPost_ret (v := .agg #[.int .i64 U1, .int .i64 V1, .int .i64 u, .int .i64 v]) (by simp [results, Try.results21, go_sem]) rfl (RPost.mk (t' := t + 1 + 2 + 1 + 2) ⟨_, _, _, _, ⟨by omega, by omega, by omega⟩, ⟨by omega, by omega, by omega⟩, rfl⟩ (by omega) (by omega) (by repeat (first | with_reducible exact Up.refl _ | apply Up.ext | apply Up.alloc)))

def RVec (a b c d : Int) (v : Value) : Prop := ∃ x y : Int, a ≤ x ∧ x ≤ b ∧ c ≤ y ∧ y ≤ d ∧ v = .agg #[.int .i64 x, .int .i64 y]
set_option maxRecDepth 100000 in
set_option maxHeartbeats 2000000 in
theorem somein_r {w : World} {sl : Value} (hN : Nums w sl) {B : Nat} (hB : w.heap.size ≤ B) {a b c d : Int} (a0 : -100000000000 ≤ a) (ab : a ≤ b) (b1 : b ≤ 100000000000) (c0 : -100000000000 ≤ c) (cd : c ≤ d) (d1 : d ≤ 100000000000) :
    RingGives 34 #[.pointer (some ⟨B, 0, none⟩), .agg #[.int .i64 a, .int .i64 b, .int .i64 c, .int .i64 d]] w sl B 2 (RVec a b c d) := fun t W hu hb t0 t1 => by
  have K1 := hide (range_r hN hB (lo := a) (hi := b) (by omega) ab (by omega))
  have K2 := hide (range_r hN hB (lo := c) (hi := d) (by omega) cd (by omega))
  have HU := hide (And.intro hu hb)
  have lB := hb.lt
  have lB2 : B ≠ W.heap.size := by omega
  have lB3 : B ≠ W.heap.size + 1 := by omega
  have lB4 : W.heap.size ≠ B := by omega
  have lB5 : W.heap.size + 1 ≠ B := by omega
  have lB6 : B < W.heap.size + 1 := by omega
  clear hN hu hb
  go_enter Try.func34, Try.ntmps34
  go_wp2_with fail
  refine wp_region_float (al := []) (mv := fun k => k == 7 || k == 15) [17] [0, 1, 2, 3, 4, 5, 6, 8, 9, 10, 11, 12, 13, 14, 7, 15, 16] (by kernel_rfl) (by kernel_rfl) makes0 (cls_ring _ B (t + 0)) (ringAt_drew (sl := sl) (t := t) (T := 81) ((HU.out.2.alloc _).alloc _) t0 (by omega)) (Nat.le_refl _) ?_
  simp only [withOps, List.filterMap_cons, List.filterMap_nil, List.getElem?_toArray, List.getElem?_cons_zero, List.getElem?_cons_succ, Option.map_some]
  (repeat (first | (apply walkF_pure (base := ringBase _ _) rfl rfl rfl (by kernel_rfl); · (rintro ⟨tx, px⟩ K hK; unfold ringBase; dsimp only; go_big_quiet_op; first | exact hK | (apply Exists.intro; refine ⟨fun _ => ?_, ?_⟩; (· (fail)); exact hK))) | (apply walkF_skip rfl; simp only [Act.put, List.setIfInBounds_toArray, List.set_cons_zero, List.set_cons_succ])))
  refine walkF_call _ _ (ring_call K1.out ((HU.out.1.alloc _).alloc _) ((HU.out.2.alloc _).alloc _) hB (by simp; omega) (by omega)) (fun _ _ => cls_ring _ _ _) (by kernel_rfl) (by kernel_rfl) (fun _ => by simp [go_sem]) ?_
  rintro _ ⟨x, x0, x1, rfl⟩
  simp only [Act.put, List.setIfInBounds_toArray, List.set_cons_zero, List.set_cons_succ]
  refine walkF_call _ _ (ring_call K2.out ((HU.out.1.alloc _).alloc _) ((HU.out.2.alloc _).alloc _) hB (by simp; omega) (by omega)) (fun _ _ => cls_ring _ _ _) (by kernel_rfl) (by kernel_rfl) (fun _ => by simp [go_sem]) ?_
  rintro _ ⟨y, y0, y1, rfl⟩
  simp only [Act.put, List.setIfInBounds_toArray, List.set_cons_zero, List.set_cons_succ]
  (repeat (first | (apply walkF_pure (base := ringBase _ _) rfl rfl rfl (by kernel_rfl); · (rintro ⟨tx, px⟩ K hK; unfold ringBase; dsimp only; go_big_quiet_op; first | exact hK | (apply Exists.intro; refine ⟨fun _ => ?_, ?_⟩; (· (fail)); exact hK))) | (apply walkF_skip rfl; simp only [Act.put, List.setIfInBounds_toArray, List.set_cons_zero, List.set_cons_succ])))
  refine walkF_nil (end0 fun W' hW' => ?_)
  obtain ⟨t', p, h0, h1, rfl⟩ := hW'
  (try simp only [List.filterMap_cons, List.filterMap_nil, List.getElem?_toArray, List.getElem?_cons_zero, List.getElem?_cons_succ])
  go_wp2
  exact bodyPost_ret (v := .agg #[.int .i64 x, .int .i64 y]) (by simp [results, Try.results34, go_sem]) rfl (RPost.mk ⟨_, _, x0, x1, y0, y1, rfl⟩ h0 (by omega) (by repeat (first | with_reducible exact Up.refl _ | apply Up.ext | apply Up.alloc)))
end Go.Proofs.Ytbcgdhldkanecaa

/- The worlds in which the ring has been asked, closed under all that a function does with blocks of its own; a call that asks the ring, in such a world. No conditions. -/
namespace Go.Proofs.Ytbcgdhldkanecaa
open Go.RowKit

theorem RingAt.start {w : World} {B : Nat} {sl : Value} {t n : Int} {T : TypeId} (h : Box w B #[sl, .int .i64 t] T) (h0 : 0 ≤ t) (h1 : t ≤ n) : RingAt w B n w :=
  ⟨t, ⟨w.drawn, #[]⟩, h0, h1, by rw [set_same h (o := 1) (v := .int .i64 t) rfl]; exact ext_refl w⟩
theorem RingAt.ofUp {w W W' : World} {B : Nat} {n : Int} (h : RingAt w B n W) (hu : Up W W') : RingAt w B n W' := by
  obtain ⟨t, p, h0, h1, rfl⟩ := h
  obtain ⟨q, rfl⟩ := hu
  exact ⟨t, p.plus q, h0, h1, by rw [ext_ext]⟩
theorem RingAt.drew {w W : World} {B : Nat} {n : Int} (h : RingAt w B n W) : RingAt w B n W.drew := h.ofUp (Up.refl _).drew
theorem RingAt.alloc {w W : World} {B : Nat} {n : Int} (h : RingAt w B n W) (o : Obj) : RingAt w B n (W.alloc o) := h.ofUp ((Up.refl _).alloc o)
theorem RingAt.ext {w W : World} {B : Nat} {n : Int} (h : RingAt w B n W) (p : Ext) : RingAt w B n (Go.Proofs.Ytbcgdhldkanecaa.ext W p) := h.ofUp ((Up.refl _).ext p)
theorem RingAt.toUp {w W : World} {B : Nat} {n : Int} (h : RingAt w B n W) : ∃ t : Int, 0 ≤ t ∧ t ≤ n ∧ Up (w.setCell ⟨B, 1, none⟩ (.int .i64 t)) W :=
  let ⟨t, p, h0, h1, hW⟩ := h; ⟨t, h0, h1, p, hW⟩
theorem RingAt.mkUp {w W : World} {B : Nat} {n t : Int} (h0 : 0 ≤ t) (h1 : t ≤ n) (h : Up (w.setCell ⟨B, 1, none⟩ (.int .i64 t)) W) : RingAt w B n W :=
  let ⟨p, hW⟩ := h; ⟨t, p, h0, h1, hW⟩
theorem set_size (w : World) (q : Addr) (v : Value) : (w.setCell q v).heap.size = w.heap.size := by simp [World.setCell]
/-- a store into a block that is new since w -/
theorem RingAt.set {w W : World} {B : Nat} {n : Int} (h : RingAt w B n W) {b : Nat} (hb : w.heap.size ≤ b) (i : Nat) (v : Value) : RingAt w B n (W.setCell ⟨b, i, none⟩ v) := by
  obtain ⟨t, h0, h1, hu⟩ := h.toUp
  exact .mkUp h0 h1 (hu.setCell (by rw [set_size]; exact hb) v)
/-- growth, and new contents of a row that is new since w -/
theorem RingAt.grown {w W W' : World} {B : Nat} {n : Int} (h : RingAt w B n W) {row : Option Nat} (hg : W.grownBy W' row) (hr : ∀ k, row = some k → w.heap.size ≤ k) : RingAt w B n W' := by
  obtain ⟨t, h0, h1, hu⟩ := h.toUp
  exact .mkUp h0 h1 (.of_below (hu.below.grown hg (by rw [set_size]; have := hu.below.size; rw [set_size] at this; exact this) (fun k e => by rw [set_size]; exact hr k e)))
theorem RingAt.mono {w W : World} {B : Nat} {n m : Int} (h : RingAt w B n W) (hm : n ≤ m) : RingAt w B m W :=
  let ⟨t, p, h0, h1, hW⟩ := h; ⟨t, p, h0, by omega, hW⟩
theorem RingAt.called {w W : World} {B : Nat} {n m t : Int} (h : RingAt w B n W) (hB : B < w.heap.size) (t0 : 0 ≤ t) (t1 : t ≤ m) (p : Ext) : RingAt w B m (Go.Proofs.Ytbcgdhldkanecaa.ext (W.setCell ⟨B, 1, none⟩ (.int .i64 t)) p) := by
  obtain ⟨t', p', h0, h1, rfl⟩ := h
  refine ⟨t, p'.plus p, t0, t1, ?_⟩
  rw [ext_setCell _ _ _ _ _ (by rw [set_size]; exact hB), set_again, ext_ext]
/-- back to the world of before -/
theorem RingAt.out {w W : World} {B : Nat} {n : Int} (h : RingAt w B n W) : ∃ (t : Int) (p : Ext), 0 ≤ t ∧ t ≤ n ∧ W = Go.Proofs.Ytbcgdhldkanecaa.ext (w.setCell ⟨B, 1, none⟩ (.int .i64 t)) p := h

/-- a function that asks the ring, called in such a world -/
theorem RingGives.at {f : FuncId} {args : Array Value} {w w0 W : World} {sl : Value} {B : Nat} {k t0 n : Int} {R : Value → Prop} (hK : RingGives f args w sl B k R) (hu : Up w w0) (hb : Box w0 B #[sl, .int .i64 t0] 81) (hB : w.heap.size ≤ B)
    (hW : RingAt w0 B n W) (hn : n + k ≤ 100000) : Calls Try.prog f args W (fun e W' => ∃ v, e = .returned v ∧ R v ∧ RingAt w0 B (n + k) W' ∧ W.grownBy W' (some B)) := by
  obtain ⟨t, h0, h1, hbW⟩ := hW.box hb
  refine (hK t _ (hW.up hu hB) hbW h0 (by omega)).mono ?_
  rintro e W' ⟨v, t', p', he, hv, h2, h3, rfl⟩
  exact ⟨v, he, hv, hW.called hb.lt h2 (by omega) p', grown_up (grown_set (grown_refl _ _) _ _) ((Up.refl _).ext _)⟩
theorem pointof_k {w : World} {sl : Value} (hN : Nums w sl) {B : Nat} (hB : w.heap.size ≤ B) {n : Int} (n0 : 0 ≤ n) (n1 : n ≤ 1000000) :
    RingGives 11 #[.pointer (some ⟨B, 0, none⟩), .int .i64 n] w sl B 2 (RVec (-n) n (-n) n) := fun t W hu hb t0 t1 => by
  have K := hide (fun t W hu hb t0 t1 => next_any w sl hN B t (2 * n + 1) W hu hb hB t0 t1 (by omega) (by omega))
  have HU := hide (And.intro hu hb)
  have lB := hb.lt
  clear hN hu hb
  go_enter Try.func11, Try.ntmps11
  go_wp2_with (go_at_call 42; refine (K.out _ _ (by repeat (first | exact HU.out.1 | apply Up.ext | apply Up.alloc | (refine Up.setCell ?_ (by simp; try omega) _))) (by repeat (first | exact HU.out.2 | apply Box.ext | apply Box.alloc | apply Box.two1 | (refine Box.other ?_ (by omega) _ _))) (by omega) (by omega)).mono ?_; rintro _ _ ⟨x, p, x0, x1, rfl, rfl⟩)
  rename_i x2 p2 x20 x21
  exact bodyPost_ret (v := .agg #[.int .i64 (x2 - n), .int .i64 (x - n)]) (by simp [results, Try.results11, go_sem]) rfl (RPost.mk (t' := t + 1 + 1) ⟨_, _, by omega, by omega, by omega, by omega, rfl⟩ (by omega) (by omega) (by repeat (first | with_reducible exact Up.refl _ | apply Up.ext | apply Up.alloc)))
end Go.Proofs.Ytbcgdhldkanecaa

