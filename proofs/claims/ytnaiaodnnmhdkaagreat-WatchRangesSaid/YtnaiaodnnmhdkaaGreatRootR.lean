/- Several texts in one. -/
import Derived.Test.YtnaiaodnnmhdkaaGreatRefA
import Derived.Test.YtnaiaodnnmhdkaaGreatSpanB
/- The document's own functions about spans: what they return. No conditions. -/
namespace Go.Proofs.YtnaiaodnnmhdkaaGreat
set_option linter.unusedVariables false
set_option linter.unusedSimpArgs false
open Go.RowKit

theorem rfits_any (n : Int) (w : World) : Gives Tryz.prog 260 #[.int .i64 n] w (.bool (fitsB n)) := by
  (unfold Gives; go_enter Tryz.func260, Tryz.ntmps260)
  go_wp2_with (go_at_call 255; refine (rbetween_any _ _ _ _).mono ?_; intro _)
  go_ret
  exact ⟨rfl, _, rfl⟩

theorem rcheck_any (lo hi : Int) (w : World) : Gives Tryz.prog 254 #[.agg #[.int .i64 lo, .int .i64 hi]] w (.int .i64 (checkE lo hi)) := by
  (unfold Gives; go_enter Tryz.func254, Tryz.ntmps254)
  go_wp2_with (go_at_call 260; refine (rfits_any _ _).mono ?_; intro _)
  all_goals (go_ret; refine ⟨ret_int ?_, (by repeat (first | with_reducible exact Up.refl _ | with_reducible apply Up.plus | apply Up.ext | apply Up.alloc | apply Up.drew | (refine Up.setCell ?_ (by simp; try omega) _)))⟩)
  all_goals (go_light; first | (simp_all [checkE]; done) | (simp_all [checkE]; omega) | (simp_all [checkE]; repeat' split; all_goals (first | (simp_all; done) | omega | (simp_all; omega))))

theorem rboth_any (a b c d : Int) (w : World) : Gives Tryz.prog 238 #[.agg #[.int .i64 a, .int .i64 b], .agg #[.int .i64 c, .int .i64 d]] w (.int .i64 (validE a b c d)) := by
  (unfold Gives; go_enter Tryz.func238, Tryz.ntmps238)
  go_wp2_with (go_at_call 254; refine (rcheck_any _ _ _).mono ?_; intro _)
  all_goals (go_ret; refine ⟨ret_int ?_, (by repeat (first | with_reducible exact Up.refl _ | with_reducible apply Up.plus | apply Up.ext | apply Up.alloc | apply Up.drew | (refine Up.setCell ?_ (by simp; try omega) _)))⟩)
  all_goals (go_light; first | (simp_all [validE]; done) | (simp_all [validE]; omega) | (simp_all [validE]; repeat' split; all_goals (first | (simp_all; done) | omega | (simp_all; omega))))

theorem rcheckarea_any (a b c d : Int) (w : World) : Gives Tryz.prog 220 #[.agg #[.int .i64 a, .int .i64 b, .int .i64 c, .int .i64 d]] w (.int .i64 (areaE a b c d)) := by
  (unfold Gives; go_enter Tryz.func220, Tryz.ntmps220)
  go_wp2_with (first | (go_at_call 238; refine (rboth_any _ _ _ _ _).mono ?_; intro _) | (go_at_call 239; refine (rfar_any _ _).mono ?_; intro _))
  all_goals (go_ret; refine ⟨ret_int ?_, (by repeat (first | with_reducible exact Up.refl _ | with_reducible apply Up.plus | apply Up.ext | apply Up.alloc | apply Up.drew | (refine Up.setCell ?_ (by simp; try omega) _)))⟩)
  all_goals (go_light; first | (simp_all [areaE, farA]; done) | (simp_all [areaE, farA]; omega) | (simp_all [areaE, farA]; repeat' split; all_goals (first | (simp_all; done) | omega | (simp_all; omega))))

theorem rresult_any (lo hi : Int) (w : World) : Gives Tryz.prog 246 #[.int .i64 lo, .int .i64 hi] w (.tuple #[.agg #[.int .i64 (endsS lo hi).1, .int .i64 (endsS lo hi).2.1], .int .i64 (endsS lo hi).2.2]) := by
  (unfold Gives; go_enter Tryz.func246, Tryz.ntmps246)
  go_wp2_with (go_at_call 260; refine (rfits_any _ _).mono ?_; intro _)
  all_goals (refine bodyPost_give (by repeat (first | with_reducible exact Up.refl _ | with_reducible apply Up.plus | apply Up.ext | apply Up.alloc | apply Up.drew | (refine Up.setCell ?_ (by simp; try omega) _))) rfl ⟨_, (by simp [results, Tryz.results246, go_sem]; rfl), ?_⟩)
  all_goals (go_light; first | (simp_all [endsS]; done) | (simp_all [endsS]; omega) | (simp_all [endsS]; repeat' split; all_goals (first | (simp_all; done) | omega | (simp_all; omega))))

theorem radd_any (a b c d : Int) (w : World) : Gives Tryz.prog 229 #[.agg #[.int .i64 a, .int .i64 b], .agg #[.int .i64 c, .int .i64 d]] w
    (.tuple #[.agg #[.int .i64 (addS a b c d).1, .int .i64 (addS a b c d).2.1], .int .i64 (addS a b c d).2.2]) := by
  by_cases hv : validE a b c d = 0
  · obtain ⟨h1, h2⟩ := valid_zero hv
    obtain ⟨a0, a1, a2⟩ := check_zero h1
    obtain ⟨c0, c1, c2⟩ := check_zero h2
    have hvb : (validE a b c d != 0) = false := by simp [hv]
    rw [show addS a b c d = endsS (a + c) (b + d) by unfold addS; rw [if_pos hv]]
    clear h1 h2 hv
    (unfold Gives; go_enter Tryz.func229, Tryz.ntmps229)
    go_wp2_with (first | (go_at_call 238; refine (rboth_any _ _ _ _ _).mono ?_; intro _) | (go_at_call 246; refine (rresult_any _ _ _).mono ?_; intro _))
    all_goals (refine bodyPost_give (by repeat (first | with_reducible exact Up.refl _ | with_reducible apply Up.plus | apply Up.ext | apply Up.alloc | apply Up.drew | (refine Up.setCell ?_ (by simp; try omega) _))) rfl ⟨_, (by simp [results, Tryz.results229, go_sem]; rfl), ?_⟩)
    all_goals rfl
  · have hvb : (validE a b c d != 0) = true := by simp [hv]
    rw [show addS a b c d = (0, 0, validE a b c d) by unfold addS; rw [if_neg hv]]
    clear hv
    (unfold Gives; go_enter Tryz.func229, Tryz.ntmps229)
    go_wp2_with (go_at_call 238; refine (rboth_any _ _ _ _ _).mono ?_; intro _)
    all_goals (refine bodyPost_give (by repeat (first | with_reducible exact Up.refl _ | with_reducible apply Up.plus | apply Up.ext | apply Up.alloc | apply Up.drew | (refine Up.setCell ?_ (by simp; try omega) _))) rfl ⟨_, (by simp [results, Tryz.results229, go_sem]; rfl), ?_⟩)
    all_goals rfl

theorem rsub_any (a b c d : Int) (w : World) : Gives Tryz.prog 257 #[.agg #[.int .i64 a, .int .i64 b], .agg #[.int .i64 c, .int .i64 d]] w
    (.tuple #[.agg #[.int .i64 (subS a b c d).1, .int .i64 (subS a b c d).2.1], .int .i64 (subS a b c d).2.2]) := by
  by_cases hv : validE a b c d = 0
  · obtain ⟨h1, h2⟩ := valid_zero hv
    obtain ⟨a0, a1, a2⟩ := check_zero h1
    obtain ⟨c0, c1, c2⟩ := check_zero h2
    have hvb : (validE a b c d != 0) = false := by simp [hv]
    rw [show subS a b c d = endsS (a - d) (b - c) by unfold subS; rw [if_pos hv]]
    clear h1 h2 hv
    (unfold Gives; go_enter Tryz.func257, Tryz.ntmps257)
    go_wp2_with (first | (go_at_call 238; refine (rboth_any _ _ _ _ _).mono ?_; intro _) | (go_at_call 246; refine (rresult_any _ _ _).mono ?_; intro _))
    all_goals (refine bodyPost_give (by repeat (first | with_reducible exact Up.refl _ | with_reducible apply Up.plus | apply Up.ext | apply Up.alloc | apply Up.drew | (refine Up.setCell ?_ (by simp; try omega) _))) rfl ⟨_, (by simp [results, Tryz.results257, go_sem]; rfl), ?_⟩)
    all_goals rfl
  · have hvb : (validE a b c d != 0) = true := by simp [hv]
    rw [show subS a b c d = (0, 0, validE a b c d) by unfold subS; rw [if_neg hv]]
    clear hv
    (unfold Gives; go_enter Tryz.func257, Tryz.ntmps257)
    go_wp2_with (go_at_call 238; refine (rboth_any _ _ _ _ _).mono ?_; intro _)
    all_goals (refine bodyPost_give (by repeat (first | with_reducible exact Up.refl _ | with_reducible apply Up.plus | apply Up.ext | apply Up.alloc | apply Up.drew | (refine Up.setCell ?_ (by simp; try omega) _))) rfl ⟨_, (by simp [results, Tryz.results257, go_sem]; rfl), ?_⟩)
    all_goals rfl
end Go.Proofs.YtnaiaodnnmhdkaaGreat

/- The whole root of a number and of a span: the document's. -/
namespace Go.Proofs.YtnaiaodnnmhdkaaGreat
set_option linter.unusedVariables false
set_option linter.unusedSimpArgs false
open Go.RowKit

theorem rRoot_any (n : Int) (n0 : -9223372036854775808 ≤ n) (n1 : n ≤ 9223372036854775807) (w : World) : Gives Tryz.prog 119 #[.int .i64 n] w (.int .i64 (rootV n)) := by
  by_cases h : n < 0
  · rw [show rootV n = -1 by unfold rootV; rw [if_pos h]]
    (unfold Gives; go_enter Tryz.func119, Tryz.ntmps119)
    go_wp2
    go_ret
    exact ⟨rfl, (by repeat (first | with_reducible exact Up.refl _ | with_reducible apply Up.plus | apply Up.ext | apply Up.alloc | apply Up.drew | (refine Up.setCell ?_ (by simp; try omega) _)))⟩
  · rw [show rootV n = isq n by unfold rootV; rw [if_neg h]]
    have h0 : 0 ≤ n := by omega
    (unfold Gives; go_enter Tryz.func119, Tryz.ntmps119)
    go_wp2
    go_loop [3, 4] (fun s3 s4 => ∃ o B : Int, s3 = .int .i64 o ∧ s4 = .int .i64 B ∧ Hid (RootAt n o B) ∧ 0 ≤ o ∧ 0 ≤ B ∧ o + 2 * B ≤ 4294967296) (fun _ s4 => (intOf s4).toNat)
    case atStart => exact ⟨0, 2147483648, rfl, rfl, hide (RootAt.start n h0 (by omega)), by omega, by omega, by omega⟩
    case round =>
      obtain ⟨o, B, rfl, rfl, hR, o0, b0, ob⟩ := hrel
      by_cases hB : 0 < B
      · obtain ⟨X, hX⟩ : ∃ X, o + B = X := ⟨_, rfl⟩
        have hst := hR.out.step hB
        rw [hX] at hst
        have HS := hide hst
        clear hst
        by_cases hbig : X ≤ 3037000499
        · have hXX := mul_bd (x := X) (y := X) (B := 3037000499) (C := 3037000499) (by omega) (by omega) (by omega) (by omega)
          have hX0 := mul_self_nonneg X
          go_wp2
          · have hle : X * X ≤ n := by assumption
            have hs := HS.out X (.inl ⟨rfl, hle⟩)
            exact ⟨⟨X, B / 2, rfl, rfl, hide hs, hs.nonneg, (hs.lt (by omega)).1, (hs.lt (by omega)).2⟩, by simp [intOf]; omega⟩
          · have hlt : n < X * X := by assumption
            have hs := HS.out o (.inr ⟨rfl, hlt⟩)
            exact ⟨⟨o, B / 2, rfl, rfl, hide hs, hs.nonneg, (hs.lt (by omega)).1, (hs.lt (by omega)).2⟩, by simp [intOf]; omega⟩
        · have hbig' : 3037000499 < X := by omega
          clear hbig
          have hlt : n < X * X := by
            have := sq_le_sq (a := 3037000500) (b := X) (by omega) (by omega)
            omega
          have hs := hide (HS.out o (.inr ⟨rfl, hlt⟩))
          clear hlt
          go_wp2
          exact ⟨⟨o, B / 2, rfl, rfl, hs, hs.out.nonneg, (hs.out.lt (by omega)).1, (hs.out.lt (by omega)).2⟩, by simp [intOf]; omega⟩
      · obtain rfl : B = 0 := by omega
        have hd := hide (hR.out.done h0 (by omega))
        go_wp2
        go_ret
        exact ⟨ret_int hd.out, Up.refl _⟩

theorem rroots_any (a b : Int) (w : World) : Gives Tryz.prog 243 #[.agg #[.int .i64 a, .int .i64 b]] w
    (.tuple #[.agg #[.int .i64 (rootsS a b).1, .int .i64 (rootsS a b).2.1], .int .i64 (rootsS a b).2.2]) := by
  by_cases hv : checkE a b = 0
  · obtain ⟨a0, a1, a2⟩ := check_zero hv
    have hvb : (checkE a b != 0) = false := by simp [hv]
    by_cases hn : a < 0
    · rw [show rootsS a b = (0, 0, 2) by unfold rootsS; rw [if_pos hv, if_pos hn]]
      clear hv
      (unfold Gives; go_enter Tryz.func243, Tryz.ntmps243)
      go_wp2_with (go_at_call 254; (with_reducible refine (rcheck_any _ _ _).mono ?_); intro _)
      all_goals (refine bodyPost_give (by repeat (first | with_reducible exact Up.refl _ | with_reducible apply Up.plus | apply Up.ext | apply Up.alloc | apply Up.drew | (refine Up.setCell ?_ (by simp; try omega) _))) rfl ⟨_, (by simp [results, Tryz.results243, go_sem]; rfl), ?_⟩)
      all_goals rfl
    · rw [show rootsS a b = (isq a, (if isq b * isq b < b then isq b + 1 else isq b), 0) by unfold rootsS; rw [if_pos hv, if_neg hn]]
      obtain ⟨i0, i1, i2⟩ := isq_spec b (by omega) (by omega)
      have i3 := lt_of_sq (a := isq b) (b := 1073741825) (by omega) (by omega)
      have H1 := hide (fun W => rRoot_any a (by omega) (by omega) W)
      have H2 := hide (fun W => rRoot_any b (by omega) (by omega) W)
      rw [show rootV a = isq a by unfold rootV; rw [if_neg (by omega)]] at H1
      rw [show rootV b = isq b by unfold rootV; rw [if_neg (by omega)]] at H2
      generalize isq b = r at *
      generalize isq a = q at *
      clear i2 hv
      have i4 := mul_bd (x := r) (y := r) (B := 1073741824) (C := 1073741824) (by omega) (by omega) (by omega) (by omega)
      have hn' : 0 ≤ a := by omega
      (unfold Gives; go_enter Tryz.func243, Tryz.ntmps243)
      go_wp2_with (first | (go_at_call 254; (with_reducible refine (rcheck_any _ _ _).mono ?_); intro _) | (go_at_call 119; (with_reducible refine (H1.out _).mono ?_); intro _) | (go_at_call 119; (with_reducible refine (H2.out _).mono ?_); intro _))
      all_goals (refine bodyPost_give (by repeat (first | with_reducible exact Up.refl _ | with_reducible apply Up.plus | apply Up.ext | apply Up.alloc | apply Up.drew | (refine Up.setCell ?_ (by simp; try omega) _))) rfl ⟨_, (by simp [results, Tryz.results243, go_sem]; rfl), ?_⟩)
      all_goals (first | rfl | (exfalso; omega))
  · have hvb : (checkE a b != 0) = true := by simp [hv]
    rw [show rootsS a b = (0, 0, checkE a b) by unfold rootsS; rw [if_neg hv]]
    clear hv
    (unfold Gives; go_enter Tryz.func243, Tryz.ntmps243)
    go_wp2_with (go_at_call 254; (with_reducible refine (rcheck_any _ _ _).mono ?_); intro _)
    all_goals (refine bodyPost_give (by repeat (first | with_reducible exact Up.refl _ | with_reducible apply Up.plus | apply Up.ext | apply Up.alloc | apply Up.drew | (refine Up.setCell ?_ (by simp; try omega) _))) rfl ⟨_, (by simp [results, Tryz.results243, go_sem]; rfl), ?_⟩)
    all_goals rfl
end Go.Proofs.YtnaiaodnnmhdkaaGreat

