/- The statements' own source of numbers: a ring of numbers that came in. Conditions: how often it was asked, and that what came in lies as it lay. -/
import Derived.Test.YtbcgdhldkanecaaGreatModk
import Derived.Test.YtbcgdhldkanecaaGreatBox
import Derived.Test.YtbcgdhldkanecaaGreatTail
namespace Go.Proofs.YtbcgdhldkanecaaGreat
set_option linter.unusedVariables false
set_option linter.unusedSimpArgs false
open Go.RowKit

theorem mod_any (n m : Int) (n0 : -9223372036854775808 ≤ n) (n1 : n ≤ 9223372036854775807) (m0 : 0 < m) (m1 : m ≤ 9223372036854775807) (w : World) :
    Gives Tryz.prog 37 #[.int .i64 n, .int .i64 m] w (.int .i64 (n % m)) := by
  by_cases hn : n < 0
  · obtain ⟨h1, h2, h3⟩ := tmod_neg n m hn m0
    have H3 := hide h3
    clear h3
    (unfold Gives; go_enter Tryz.func37, Tryz.ntmps37)
    go_wp2
    all_goals (go_ret; refine ⟨ret_int ?_, (by repeat (first | with_reducible exact Up.refl _ | with_reducible apply Up.plus | apply Up.ext | apply Up.alloc | apply Up.drew | (refine Up.setCell ?_ (by simp; try omega) _)))⟩)
    all_goals (have h3 := H3.out; (first | rw [if_pos (by omega)] at h3 | rw [if_neg (by omega)] at h3); omega)
  · have h1 := Int.emod_nonneg n (show m ≠ 0 by omega)
    have h2 := Int.emod_lt_of_pos n m0
    (unfold Gives; go_enter Tryz.func37, Tryz.ntmps37)
    go_wp2
    all_goals (go_ret; refine ⟨ret_int ?_, (by repeat (first | with_reducible exact Up.refl _ | with_reducible apply Up.plus | apply Up.ext | apply Up.alloc | apply Up.drew | (refine Up.setCell ?_ (by simp; try omega) _)))⟩)
    all_goals rfl

/-- numbers that came in, in old blocks -/
def Nums (w : World) (sl : Value) : Prop := sl = .slice none 0 0 ∨ (∃ (a : Addr) (c : Nat), sl = .slice (some a) 0 c) ∨ ∃ (b o n c : Nat), sl = .slice (some ⟨b, o, none⟩) n c ∧ 1 ≤ n ∧ b < w.heap.size ∧ n ≤ 9223372036854775807 ∧ ∀ i, i < n → ∃ z : Int, (-9223372036854775808 ≤ z ∧ z ≤ 9223372036854775807) ∧ w.cell? ⟨b, o + i, none⟩ = some (.int .i64 z)

/-- a number from lo to hi is handed back; the ring has counted -/
def RingPost (W : World) (B : Nat) (t : Int) (lo hi : Int) (e : Ending) (W' : World) : Prop := ∃ (x : Int) (p : Ext), lo ≤ x ∧ x ≤ hi ∧ e = .returned (.int .i64 x) ∧ W' = ext (W.setCell ⟨B, 1, none⟩ (.int .i64 t)) p

@[go_sem] theorem set_again (w : World) (b o : Nat) (v v' : Value) : (w.setCell ⟨b, o, none⟩ v).setCell ⟨b, o, none⟩ v' = w.setCell ⟨b, o, none⟩ v' := by
  unfold World.setCell
  congr 1
  apply Array.ext_getElem?
  intro k
  simp only [Array.getElem?_modify]
  by_cases h : b = k
  · subst h
    simp only [if_true, Option.map_map]
    cases w.heap[b]? with
    | none => rfl
    | some x => cases x <;> simp
  · simp [h]
theorem Box.two1 {w : World} {b : Nat} {x y : Value} {t : TypeId} (h : Box w b #[x, y] t) (v : Value) : Box (w.setCell ⟨b, 1, none⟩ v) b #[x, v] t := h.set 1 v
theorem up_cell {w W : World} (hu : Up w W) {b o : Nat} (hb : b < w.heap.size) : W.cell? ⟨b, o, none⟩ = w.cell? ⟨b, o, none⟩ := World.cell?_of_block (hu.below.block b hb)

set_option maxHeartbeats 4000000 in
theorem next_any (w : World) (sl : Value) (hN : Nums w sl) (B : Nat) (t m : Int) (W : World) (hu : Up w W) (hb : Box W B #[sl, .int .i64 t] 78) (hB : w.heap.size ≤ B) (t0 : 0 ≤ t) (t1 : t ≤ 1000000) (m0 : 1 ≤ m) (m1 : m ≤ 9223372036854775807) :
    Calls Tryz.prog 11 #[.pointer (some ⟨B, 0, none⟩), .int .i64 m] W (RingPost W B (t + 1) 0 (m - 1)) := by
  have c0 := hb.cell 0 rfl
  have c1 := hb.cell 1 rfl
  have f1 := hb.frozen 1
  have lB := hb.lt
  have hU := hide hu
  obtain ⟨X, hX⟩ : ∃ X, (t + 1) * 7919 % 10007 = X := ⟨_, rfl⟩
  have X0 : 0 ≤ X := by omega
  have X1 : X < 10007 := by omega
  rcases hN with rfl | ⟨a, c, rfl⟩ | ⟨b, o, n, c, rfl, hn1, hbw, hn, hcells⟩
  · clear hu hb
    go_enter Tryz.func11, Tryz.ntmps11
    go_wp2
    go_ret
    exact ⟨_, _, Int.emod_nonneg _ (by omega), (by have := Int.emod_lt_of_pos X (show 0 < m by omega); omega), rfl, ext_refl _⟩
  · clear hu hb
    go_enter Tryz.func11, Tryz.ntmps11
    go_wp2
    go_ret
    exact ⟨_, _, Int.emod_nonneg _ (by omega), (by have := Int.emod_lt_of_pos X (show 0 < m by omega); omega), rfl, ext_refl _⟩
  · have HC := hide hcells
    clear hcells hb
    · obtain ⟨j, hj, hjn⟩ : ∃ j : Nat, (t + 1) % (n : Int) = j ∧ j < n := by
        have h1 := Int.emod_nonneg (t + 1) (show (n : Int) ≠ 0 by omega)
        have h2 := Int.emod_lt_of_pos (t + 1) (show (0 : Int) < n by omega)
        obtain ⟨j, hj⟩ := Int.eq_ofNat_of_zero_le h1
        exact ⟨j, hj, by omega⟩
      obtain ⟨z, ⟨z0, z1⟩, hz⟩ := HC.out j hjn
      have cz : W.cell? ⟨b, o + j, none⟩ = some (.int .i64 z) := (up_cell hU.out hbw).trans hz
      have hne : b ≠ B := by omega
      have hne2 : B ≠ b := by omega
      have hbW : b < W.heap.size := by omega
      have j0 : (0 : Int) ≤ (j : Int) := by omega
      have j1 : (j : Int) < n := by omega
      obtain ⟨y, hy, y0, y1⟩ : ∃ y, z % 1048576 = y ∧ 0 ≤ y ∧ y < 1048576 := ⟨_, rfl, by omega, by omega⟩
      have K := hide (fun W => mod_any z 1048576 z0 z1 (by omega) (by omega) W)
      rw [hy] at K
      have q0 : 0 ≤ (t + 1) / (n : Int) := Int.ediv_nonneg (by omega) (by omega)
      have q1 : (t + 1) / (n : Int) ≤ 1000001 := Int.ediv_le_of_le_mul (by omega) (by
        have := Int.mul_le_mul_of_nonneg_left (show (1 : Int) ≤ n by omega) (show (0 : Int) ≤ 1000001 by omega)
        omega)
      obtain ⟨Q, hQ⟩ : ∃ Q, (t + 1) / (n : Int) = Q := ⟨_, rfl⟩
      rw [hQ] at q0 q1
      have d0 : 0 ≤ y / (1 + Q) := Int.ediv_nonneg (by omega) (by omega)
      have d1 : y / (1 + Q) ≤ 1048576 := Int.ediv_le_of_le_mul (by omega) (by
        have := Int.mul_le_mul_of_nonneg_left (show (1 : Int) ≤ 1 + Q by omega) (show (0 : Int) ≤ 1048576 by omega)
        omega)
      obtain ⟨D, hD⟩ : ∃ D, y / (1 + Q) = D := ⟨_, rfl⟩
      rw [hD] at d0 d1
      clear hz hy hu
      go_enter Tryz.func11, Tryz.ntmps11
      go_wp2_with fail
      ((first | with_reducible refine wp_region_ext2 (by kernel_rfl) (by kernel_rfl) ?_ | refine wp_region_ext (by kernel_rfl) (by kernel_rfl) ?_); (repeat (go_big_quiet_step ((go_at_call 37; exact Gives.inRegion (K.out _))))); refine wpQuiet_nil ?_; intro _ hw'; obtain ⟨_, hw''⟩ := hw'; subst hw'')
      go_wp2
      go_ret
      exact ⟨_, _, Int.emod_nonneg _ (by omega), (by have := Int.emod_lt_of_pos (X + D) (show 0 < m by omega); omega), rfl, rfl⟩

theorem range_any (w : World) (sl : Value) (hN : Nums w sl) (B : Nat) (t lo hi : Int) (W : World) (hu : Up w W) (hb : Box W B #[sl, .int .i64 t] 78) (hB : w.heap.size ≤ B) (t0 : 0 ≤ t) (t1 : t ≤ 1000000)
    (l0 : -1000000000000 ≤ lo) (l1 : lo ≤ hi) (l2 : hi ≤ 1000000000000) :
    Calls Tryz.prog 12 #[.pointer (some ⟨B, 0, none⟩), .int .i64 lo, .int .i64 hi] W (RingPost W B (t + 1) lo hi) := by
  have K := hide (next_any w sl hN B t (hi - lo + 1) W hu hb hB t0 t1 (by omega) (by omega))
  clear hN hu hb hB
  go_enter Tryz.func12, Tryz.ntmps12
  go_wp2_with (go_at_call 11; refine K.out.mono ?_; rintro _ _ ⟨x, p, x0, x1, rfl, rfl⟩)
  go_ret
  exact ⟨_, _, by omega, by omega, rfl, rfl⟩

/-- a span made of numbers -/
def SpanPost (W : World) (B : Nat) (t : Int) (about wide : Int) (e : Ending) (W' : World) : Prop := ∃ (x y : Int) (p : Ext), about - wide ≤ x ∧ x ≤ about ∧ x ≤ y ∧ y ≤ x + wide ∧ e = .returned (.agg #[.int .i64 x, .int .i64 y]) ∧ W' = ext (W.setCell ⟨B, 1, none⟩ (.int .i64 t)) p

theorem SpanPost.mk {W : World} {B : Nat} {t about wide x y : Int} {W' : World} (h1 : about - wide ≤ x) (h2 : x ≤ about) (h3 : x ≤ y) (h4 : y ≤ x + wide) (u : Up (W.setCell ⟨B, 1, none⟩ (.int .i64 t)) W') : SpanPost W B t about wide (.returned (.agg #[.int .i64 x, .int .i64 y])) W' :=
  let ⟨p, hp⟩ := u; ⟨x, y, p, h1, h2, h3, h4, rfl, hp⟩

theorem spanof_any (w : World) (sl : Value) (hN : Nums w sl) (B : Nat) (t about wide : Int) (W : World) (hu : Up w W) (hb : Box W B #[sl, .int .i64 t] 78) (hB : w.heap.size ≤ B) (t0 : 0 ≤ t) (t1 : t ≤ 100000)
    (a0 : -1000000 ≤ about) (a1 : about ≤ 1000000) (w0 : 0 ≤ wide) (w1 : wide ≤ 1000000) :
    Calls Tryz.prog 38 #[.pointer (some ⟨B, 0, none⟩), .int .i64 about, .int .i64 wide] W (SpanPost W B (t + 2) about wide) := by
  have K := hide (fun t W hu hb t0 t1 => range_any w sl hN B t 0 wide W hu hb hB t0 t1 (by omega) w0 (by omega))
  have HU := hide (And.intro hu hb)
  have lB := hb.lt
  clear hN hu hb
  go_enter Tryz.func38, Tryz.ntmps38
  go_wp2_with (go_at_call 12; refine (K.out _ _ (by repeat (first | exact HU.out.1 | apply Up.ext | apply Up.alloc | (refine Up.setCell ?_ (by simp; try omega) _))) (by repeat (first | exact HU.out.2 | apply Box.ext | apply Box.alloc | apply Box.two1 | (refine Box.other ?_ (by omega) _ _))) (by omega) (by omega)).mono ?_; rintro _ _ ⟨x, p, x0, x1, rfl, rfl⟩)
  rename_i x1' p1' e1 e2
  rw [show t + 2 = t + 1 + 1 by omega]
  exact bodyPost_ret (v := .agg #[.int .i64 (about - x1'), .int .i64 (about - x1' + x)]) (by simp [results, Tryz.results38, go_sem]) rfl (SpanPost.mk (by omega) (by omega) (by omega) (by omega) (by repeat (first | with_reducible exact Up.refl _ | apply Up.ext | apply Up.alloc)))

theorem Nums.form {w : World} {v : Value} (h : Nums w v) : ∃ (a : Option Addr) (n c : Nat), v = .slice a n c := by
  rcases h with rfl | ⟨a, c, rfl⟩ | ⟨b, o, n, c, rfl, _⟩ <;> exact ⟨_, _, _, rfl⟩
theorem newring_any (a : Option Addr) (n c : Nat) (w : World) : Calls Tryz.prog 9 #[.slice a n c] w
    fun e w' => e = .returned (.pointer (some ⟨w.heap.size, 0, none⟩)) ∧ w' = w.alloc (.cells #[.slice a n c, .int .i64 0] 78) := by
  go_enter Tryz.func9, Tryz.ntmps9
  go_wp2
  go_ret
  exact ⟨rfl, rfl⟩
end Go.Proofs.YtbcgdhldkanecaaGreat
