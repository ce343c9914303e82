/- The document's own way to say what surely comes within r of the origin. -/
import Derived.Test.YtfpdnmfklmgmfaaHitsb
import Derived.Test.YtfpdnmfklmgmfaaRefS
import Derived.Deep.RegionWith
namespace Go.Proofs.Ytfpdnmfklmgmfaa
open Go.RowKit

/-- the cells of some places -/
def flat (l : List (Int × Int)) : List Value := l.flatMap fun p => [.int .i64 p.1, .int .i64 p.2]
theorem flat_at : ∀ (l : List (Int × Int)) (k : Nat) (h : k < l.length), (flat l)[k * 2]? = some (.int .i64 l[k].1) ∧ (flat l)[k * 2 + 1]? = some (.int .i64 l[k].2)
  | p :: l, 0, _ => by simp [flat]
  | p :: l, k + 1, h => by
    have := flat_at l k (by simpa using h)
    unfold flat at this ⊢
    rw [List.flatMap_cons, show (k + 1) * 2 = k * 2 + 2 by omega]
    simpa using this
theorem flat_len (l : List (Int × Int)) : (flat l).length = l.length * 2 := by
  unfold flat
  induction l with
  | nil => rfl
  | cons p l ih => rw [List.flatMap_cons, List.length_append, ih]; simp; omega

theorem points_any (a : Ar) (w : World) : Calls Try.prog 110 #[.agg #[.int .i64 a.1, .int .i64 a.2.1, .int .i64 a.2.2.1, .int .i64 a.2.2.2]] w
    fun e w' => e = .returned (.slice (some ⟨w.heap.size + 1, 0, none⟩) 4 4) ∧ w' = (w.alloc (.cells #[.int .i64 a.1, .int .i64 a.2.1, .int .i64 a.2.2.1, .int .i64 a.2.2.2] 44)).alloc (.cells (flat (fourA a)).toArray 23) := by
  go_enter Try.func110, Try.ntmps110
  go_wp2
  go_ret
  exact ⟨rfl, rfl⟩

theorem points_lit (x0 x1 y0 y1 : Int) (w : World) : Calls Try.prog 110 #[.agg #[.int .i64 x0, .int .i64 x1, .int .i64 y0, .int .i64 y1]] w
    fun e w' => e = .returned (.slice (some ⟨w.heap.size + 1, 0, none⟩) 4 4) ∧ w' = (w.alloc (.cells #[.int .i64 x0, .int .i64 x1, .int .i64 y0, .int .i64 y1] 44)).alloc (.cells #[.int .i64 x0, .int .i64 y0, .int .i64 x0, .int .i64 y1, .int .i64 x1, .int .i64 y0, .int .i64 x1, .int .i64 y1] 23) :=
  points_any (x0, x1, y0, y1) w

theorem sq_lt_sq2 {a b : Int} (h0 : 0 ≤ a) (h : a < b) : a * a < b * b := by
  have h1 : (a + 1) * (a + 1) ≤ b * b := Int.mul_le_mul (by omega) (by omega) (by omega) (by omega)
  have h2 : (a + 1) * (a + 1) = a * a + 2 * a + 1 := by grind
  omega

set_option maxHeartbeats 2000000 in
theorem rall_any (a : Ar) (r : Int) (ha : okB a) (r0 : 0 ≤ r) (r1 : r ≤ 268435456) (w : World) : Gives Try.prog 108 #[.agg #[.int .i64 a.1, .int .i64 a.2.1, .int .i64 a.2.2.1, .int .i64 a.2.2.2], .int .i64 r] w (.bool (allB a r)) := by
  have hq := big_corners ha
  have hL : cornersL [a] = fourA a := by unfold cornersL; simp
  have hl : (fourA a).length = 4 := rfl
  have hP := points_any a
  have hV : allB a r = (fourA a).all fun q => !decide (8 * r * (8 * r) < q.1 * q.1 + q.2 * q.2) := by unfold allB; rw [hL]
  rw [hV]
  rw [hL] at hq
  generalize fourA a = l at *
  obtain ⟨R, hR⟩ : ∃ R, 8 * r = R := ⟨_, rfl⟩
  have R0 : 0 ≤ R := by omega
  have R1 : R ≤ 2147483648 := by omega
  have m3 := mul_bd (x := R) (y := R) (B := 2147483648) (C := 2147483648) (by omega) (by omega) (by omega) (by omega)
  have m6 := mul_self_nonneg R
  have e64 : 64 * r * r = R * R := by rw [← hR]; grind
  rw [hR]
  have HP := hide hP
  have HQ := hide hq
  have HL := hide hl
  clear hP hq hl hL hV
  (unfold Gives; go_enter Try.func108, Try.ntmps108)
  go_wp2_with (go_at_call 110; refine (HP.out _).mono ?_; rintro _ _ ⟨rfl, rfl⟩)
  go_loopw [6] (fun s6 wr => ∃ k : Nat, k ≤ 4 ∧ s6 = .int .i64 k ∧ Hid ((l.take k).all (fun q => !decide (R * R < q.1 * q.1 + q.2 * q.2)) = true ∧ Up w wr ∧ Box wr (w.heap.size + 1 + 1) (flat l).toArray 23)) (fun s6 _ => 4 - (intOf s6).toNat)
  case atStart => exact ⟨0, by omega, rfl, hide ⟨rfl, (by repeat (first | with_reducible exact Up.refl _ | apply Up.ext | apply Up.alloc | apply Up.drew | (refine Up.setCell ?_ (by simp; try omega) _))), Box.mk (by simp)⟩⟩
  case round =>
    obtain ⟨k, hk, rfl, hS⟩ := hrel
    by_cases hlt : k < 4
    · have hkb : decide ((k : Int) < 4) = true := by simp; omega
      have hkl : k < l.length := by rw [HL.out]; exact hlt
      have k0 : (0 : Int) ≤ (k : Int) := by omega
      have k1 : (k : Int) < 4 := by omega
      have sz := hS.out.2.2.lt
      obtain ⟨f0, f1⟩ := flat_at l k hkl
      have c0 := hS.out.2.2.cell (k * 2) (by simpa using f0)
      have c1 := hS.out.2.2.cell (k * 2 + 1) (by simpa using f1)
      obtain ⟨⟨x0, x1⟩, y0, y1⟩ := HQ.out l[k] (List.getElem_mem hkl)
      have hst := hide (show (l.take (k + 1)).all (fun q => !decide (R * R < q.1 * q.1 + q.2 * q.2)) = (!decide (R * R < l[k].1 * l[k].1 + l[k].2 * l[k].2)) by
        rw [← List.take_append_getElem hkl, List.all_append, hS.out.1]; simp)
      have hfail := hide (fun (h : R * R < l[k].1 * l[k].1 + l[k].2 * l[k].2) => show l.all (fun q => !decide (R * R < q.1 * q.1 + q.2 * q.2)) = false by
        rw [List.all_eq_false]; exact ⟨l[k], List.getElem_mem hkl, by simpa using h⟩)
      clear f0 f1
      generalize l[k].1 = x at *
      generalize l[k].2 = y at *
      have m1 := mul_bd (x := x) (y := x) (B := 2147483648) (C := 2147483648) (by omega) (by omega) (by omega) (by omega)
      have m2 := mul_bd (x := y) (y := y) (B := 2147483648) (C := 2147483648) (by omega) (by omega) (by omega) (by omega)
      have m4 := mul_self_nonneg x
      have m5 := mul_self_nonneg y
      have q1 : max x (-x) * max x (-x) = x * x := by rcases Int.le_total x (-x) with h | h; rw [Int.max_eq_right h]; grind; rw [Int.max_eq_left h]
      have q2 : max y (-y) * max y (-y) = y * y := by rcases Int.le_total y (-y) with h | h; rw [Int.max_eq_right h]; grind; rw [Int.max_eq_left h]
      by_cases hx : R < max x (-x)
      · have hgt : R * R < x * x + y * y := by have := sq_lt_sq2 R0 hx; omega
        have HG := hide hgt
        clear hgt q1 q2
        go_wp2
        ((first | with_reducible refine wp_region_ext2 (by kernel_rfl) (by kernel_rfl) ?_ | refine wp_region_ext (by kernel_rfl) (by kernel_rfl) ?_); (repeat (go_big_quiet_step (fail))); refine wpQuiet_nil ?_; intro _ hw'; obtain ⟨_, hw''⟩ := hw'; subst hw'')
        go_wp2
        go_ret
        exact ⟨ret_bool (hfail.out (HG.out)).symm, hS.out.2.1.ext _⟩
      · by_cases hy : R < max y (-y)
        · have hgt : R * R < x * x + y * y := by have := sq_lt_sq2 R0 hy; omega
          have HG := hide hgt
          have hx' : max x (-x) ≤ R := by omega
          clear hgt hx q1 q2
          go_wp2
          ((first | with_reducible refine wp_region_ext2 (by kernel_rfl) (by kernel_rfl) ?_ | refine wp_region_ext (by kernel_rfl) (by kernel_rfl) ?_); (repeat (go_big_quiet_step (fail))); refine wpQuiet_nil ?_; intro _ hw'; obtain ⟨_, hw''⟩ := hw'; subst hw'')
          go_wp2
          go_ret
          exact ⟨ret_bool (hfail.out (HG.out)).symm, hS.out.2.1.ext _⟩
        · have hx' : max x (-x) ≤ R := by omega
          have hy' : max y (-y) ≤ R := by omega
          clear hx hy q1 q2
          by_cases hgt : R * R < x * x + y * y
          · go_wp2
            ((first | with_reducible refine wp_region_ext2 (by kernel_rfl) (by kernel_rfl) ?_ | refine wp_region_ext (by kernel_rfl) (by kernel_rfl) ?_); (repeat (go_big_quiet_step (fail))); refine wpQuiet_nil ?_; intro _ hw'; obtain ⟨_, hw''⟩ := hw'; subst hw'')
            go_wp2
            go_ret
            exact ⟨ret_bool (hfail.out (hgt)).symm, hS.out.2.1.ext _⟩
          · have hle : x * x + y * y ≤ R * R := by omega
            clear hgt
            go_wp2
            ((first | with_reducible refine wp_region_ext2 (by kernel_rfl) (by kernel_rfl) ?_ | refine wp_region_ext (by kernel_rfl) (by kernel_rfl) ?_); (repeat (go_big_quiet_step (fail))); refine wpQuiet_nil ?_; intro _ hw'; obtain ⟨_, hw''⟩ := hw'; subst hw'')
            go_wp2
            exact ⟨⟨k + 1, by omega, by go_num, hide ⟨by rw [hst.out]; simp; omega, hS.out.2.1.ext _, hS.out.2.2.ext _⟩⟩, by simp [intOf]; omega⟩
    · have hkb : decide ((k : Int) < 4) = false := by simp; omega
      obtain rfl : k = 4 := by omega
      go_wp2
      go_ret
      refine ⟨ret_bool ?_, hS.out.2.1⟩
      have := hS.out.1
      rw [List.take_of_length_le (by rw [HL.out]; omega)] at this
      exact this.symm

theorem rblend_any (a b c d i : Int) (a0 : -268435456 ≤ a ∧ a ≤ 268435456) (b0 : -268435456 ≤ b ∧ b ≤ 268435456) (c0 : -268435456 ≤ c ∧ c ≤ 268435456) (d0 : -268435456 ≤ d ∧ d ≤ 268435456) (i0 : 0 ≤ i) (i1 : i ≤ 8) (w : World) :
    Gives Try.prog 109 #[.agg #[.int .i64 a, .int .i64 b], .agg #[.int .i64 c, .int .i64 d], .int .i64 i] w (.agg #[.int .i64 ((8 - i) * a + i * c), .int .i64 ((8 - i) * b + i * d)]) := by
  obtain ⟨j, hj⟩ : ∃ j, 8 - i = j := ⟨_, rfl⟩
  rw [hj]
  have m1 := mul_bd (x := j) (y := a) (B := 8) (C := 268435456) (by omega) (by omega) (by omega) (by omega)
  have m2 := mul_bd (x := j) (y := b) (B := 8) (C := 268435456) (by omega) (by omega) (by omega) (by omega)
  have m3 := mul_bd (x := i) (y := c) (B := 8) (C := 268435456) (by omega) (by omega) (by omega) (by omega)
  have m4 := mul_bd (x := i) (y := d) (B := 8) (C := 268435456) (by omega) (by omega) (by omega) (by omega)
  (unfold Gives; go_enter Try.func109, Try.ntmps109)
  go_wp2
  all_goals (refine bodyPost_give (by repeat (first | with_reducible exact Up.refl _ | apply Up.ext | apply Up.alloc | apply Up.drew | (refine Up.setCell ?_ (by simp; try omega) _))) rfl ⟨_, (by simp [results, Try.results109, go_sem]; rfl), ?_⟩)
  all_goals rfl

theorem rsure_any (a b : Ar) (r : Int) (w : World) : Gives Try.prog 107 #[.agg #[.int .i64 a.1, .int .i64 a.2.1, .int .i64 a.2.2.1, .int .i64 a.2.2.2], .agg #[.int .i64 b.1, .int .i64 b.2.1, .int .i64 b.2.2.1, .int .i64 b.2.2.2], .int .i64 r] w (.bool (rightB a b r)) := by
  (unfold Gives; go_enter Try.func107, Try.ntmps107)
  go_wp2_with (first | (go_at_call 48; (with_reducible refine (rcheckarea_any _ _ _ _ _).mono ?_); intro _) | (go_at_call 75; (with_reducible refine (rbetween_any _ _ _ _).mono ?_); intro _))
  all_goals (go_ret; refine ⟨ret_bool ?_, (by repeat (first | with_reducible exact Up.refl _ | apply Up.ext | apply Up.alloc | apply Up.drew | (refine Up.setCell ?_ (by simp; try omega) _)))⟩)
  all_goals (go_light; first | (simp_all [rightB]; done) | (simp_all [rightB]; omega) | (simp_all [rightB]; repeat' split; all_goals (first | (simp_all; done) | omega | (simp_all; omega))))
end Go.Proofs.Ytfpdnmfklmgmfaa
