/- SpanRounds returns true for every input: the quotient of a product is rounded down and up; the square of a root is at most the number, that of the next one greater. No conditions. -/
import Derived.Test.YtfpdnmfklmgmfaaPostb
import Derived.Test.YtfpdnmfklmgmfaaRootW
import Derived.Test.YtfpdnmfklmgmfaaModk
import Derived.Test.YtfpdnmfklmgmfaaTail
import Derived.JoinedOf
import Derived.JoinedAt
import Derived.ChangeSame
import Derived.OpenShut
namespace Go.Proofs.Ytfpdnmfklmgmfaa
open Go.RowKit Go.ChangeShapes Go.WideShapes Go.ChangeAt Go.Joins

/-- a quotient of two numbers within a million, by a divisor above 0: what it is rounded to -/
theorem round_facts (p c : Int) (c0 : 0 < c) (c1 : c ≤ 100000) (p0 : -1000000000000 ≤ p) (p1 : p ≤ 1000000000000) :
    ∃ lo hi : Int, mdE p c = (lo, hi, 0) ∧ -1000000000000 ≤ lo ∧ hi ≤ 1000000000000 ∧ lo ≤ hi ∧ hi ≤ lo + 1 ∧ c * lo ≤ p ∧ p - c < c * lo ∧ p < c * (lo + 1) ∧ c * (lo + 1) ≤ p + c ∧ p ≤ c * hi ∧ c * hi < p + c ∧ c * (hi - 1) < p ∧ p - c ≤ c * (hi - 1) ∧
      (∃ t : Bool, (p.tmod c == 0) = t ∧ (lo == hi) = t) := by
  have h1 := Int.mul_ediv_add_emod p c
  have h2 := Int.emod_nonneg p (show c ≠ 0 by omega)
  have h3 := Int.emod_lt_of_pos p c0
  have h4 := Int.mul_ediv_add_emod (-p) c
  have h5 := Int.emod_nonneg (-p) (show c ≠ 0 by omega)
  have h6 := Int.emod_lt_of_pos (-p) c0
  have hL : -1000000000000 ≤ p / c := (Int.le_ediv_iff_mul_le c0).2 (by omega)
  have hU : p / c ≤ 1000000000000 := Int.ediv_le_of_le_mul c0 (by omega)
  have hL' : -1000000000000 ≤ (-p) / c := (Int.le_ediv_iff_mul_le c0).2 (by omega)
  have hU' : (-p) / c ≤ 1000000000000 := Int.ediv_le_of_le_mul c0 (by omega)
  have hf : floQ p c = p / c := by unfold floQ; rw [if_neg (by omega)]
  have hg : ceiQ p c = -((-p) / c) := by unfold ceiQ floQ; rw [if_neg (by omega)]
  have ht : (p.tmod c = 0) ↔ (p % c = 0) := by
    rw [← Int.dvd_iff_tmod_eq_zero, ← Int.dvd_iff_emod_eq_zero]
  have e1 : c * (p / c + 1) = c * (p / c) + c := by grind
  have e2 : c * (-((-p) / c)) = -(c * ((-p) / c)) := by grind
  have e3 : c * (-((-p) / c) - 1) = -(c * ((-p) / c)) - c := by grind
  have h7 : c * (p / c + (-p) / c) = -(p % c) - (-p) % c := by rw [Int.mul_add]; omega
  have h8 : p / c + (-p) / c = 0 ∨ p / c + (-p) / c = -1 := by
    have b1 : p / c + (-p) / c < 1 := by
      apply Int.lt_of_mul_lt_mul_left (a := c) _ (by omega)
      omega
    have b2 : -2 < p / c + (-p) / c := by
      apply Int.lt_of_mul_lt_mul_left (a := c) _ (by omega)
      omega
    omega
  refine ⟨p / c, -((-p) / c), ?_, hL, by omega, by omega, by omega, by omega, by omega, by omega, by omega, by omega, by omega, by omega, by omega, (p / c == -((-p) / c)), ?_, rfl⟩
  · unfold mdE; rw [hf, hg, if_pos (by omega)]
  · rw [Bool.eq_iff_iff]
    simp only [beq_iff_eq]
    rw [ht]
    rcases h8 with h8 | h8 <;> rw [h8] at h7 <;> constructor <;> intro h <;> omega

theorem flo_neg (p c : Int) (hc : c < 0) : mdE p c = mdE (-p) (-c) := by
  have h1 : floQ p c = floQ (-p) (-c) := by unfold floQ; rw [if_pos hc, if_neg (by omega)]
  have h2 : ceiQ p c = ceiQ (-p) (-c) := by unfold ceiQ floQ; rw [if_pos hc, if_neg (by omega)]
  unfold mdE; rw [h1, h2]

/-- the second half: a root -/
theorem root_facts (n : Int) (n0 : 0 ≤ n) (n1 : n < 1152921504606846976) : ∃ r : Int, rootV n = r ∧ 0 ≤ r ∧ r ≤ 1073741824 ∧ 0 ≤ r * r ∧ r * r ≤ n ∧ n < (r + 1) * (r + 1) ∧ (r + 1) * (r + 1) ≤ 1152921504606846976 * 2 := by
  obtain ⟨i0, i1, i2⟩ := isq_spec n n0 (by omega)
  have i3 := lt_of_sq (a := isq n) (b := 1073741825) (by omega) (by omega)
  have i4 := mul_bd (x := isq n + 1) (y := isq n + 1) (B := 1073741825) (C := 1073741825) (by omega) (by omega) (by omega) (by omega)
  exact ⟨isq n, by unfold rootV; rw [if_neg (by omega)], i0, by omega, mul_self_nonneg _, i1, i2, by omega⟩

set_option maxHeartbeats 2000000 in
theorem rounds_law (a0 b0 c0 n0 : Int) (ha0 : -9223372036854775808 ≤ a0 ∧ a0 ≤ 9223372036854775807) (hb0 : -9223372036854775808 ≤ b0 ∧ b0 ≤ 9223372036854775807) (hc0 : -9223372036854775808 ≤ c0 ∧ c0 ≤ 9223372036854775807) (hn0 : -9223372036854775808 ≤ n0 ∧ n0 ≤ 9223372036854775807) (w : World) :
    Gives Try.prog 8 #[.int .i64 a0, .int .i64 b0, .int .i64 c0, .int .i64 n0] w (.bool true) := by
  have M1 := fun w => mod64_any a0 2000001 ha0.1 ha0.2 (by omega) (by omega) w
  have M2 := fun w => mod64_any b0 2000001 hb0.1 hb0.2 (by omega) (by omega) w
  have M3 := fun w => mod64_any c0 200001 hc0.1 hc0.2 (by omega) (by omega) w
  have M4 := fun w => mod64_any n0 1152921504606846976 hn0.1 hn0.2 (by omega) (by omega) w
  obtain ⟨x, hx, x0, x1⟩ : ∃ x, a0 % 2000001 = x ∧ 0 ≤ x ∧ x ≤ 2000000 := ⟨_, rfl, by omega, by omega⟩
  obtain ⟨y, hy, y0, y1⟩ : ∃ x, b0 % 2000001 = x ∧ 0 ≤ x ∧ x ≤ 2000000 := ⟨_, rfl, by omega, by omega⟩
  obtain ⟨z, hz, z0, z1⟩ : ∃ x, c0 % 200001 = x ∧ 0 ≤ x ∧ x ≤ 200000 := ⟨_, rfl, by omega, by omega⟩
  obtain ⟨m, hm, m0, m1⟩ : ∃ x, n0 % 1152921504606846976 = x ∧ 0 ≤ x ∧ x < 1152921504606846976 := ⟨_, rfl, by omega, by omega⟩
  rw [hx] at M1
  rw [hy] at M2
  rw [hz] at M3
  rw [hm] at M4
  obtain ⟨r, hr, r0, r1, r2, r3, r4, r5⟩ := root_facts m m0 m1
  have R1 := fun w => Root_any m (by omega) (by omega) w
  rw [hr] at R1
  have H1 := hide M1
  have H2 := hide M2
  have H3 := hide M3
  have H4 := hide M4
  have H5 := hide R1
  clear M1 M2 M3 M4 R1 hx hy hz hm hr ha0 hb0 hc0 hn0
  have D := fun w => muldiv_any (-1000000 + x) (-1000000 + y) (-100000 + z) w
  have hfit : fitsB (-1000000 + x) = true ∧ fitsB (-1000000 + y) = true ∧ fitsB (-100000 + z) = true := ⟨(fits_iff _).2 (by omega), (fits_iff _).2 (by omega), (fits_iff _).2 (by omega)⟩
  have hp := mul_bd (x := -1000000 + x) (y := -1000000 + y) (B := 1000000) (C := 1000000) (by omega) (by omega) (by omega) (by omega)
  by_cases hz : z = 100000
  · subst hz
    rw [show mulDivE (-1000000 + x) (-1000000 + y) (-100000 + 100000) = (0, 0, 2) by unfold mulDivE; rw [if_neg (by simp)], show (-100000 + 100000 : Int) = 0 from rfl] at D
    have H6 := hide D
    clear D hfit hp
    (unfold Gives; go_enter Try.func8, Try.ntmps8)
    go_wp2_with (first | (go_at_call 25; (with_reducible refine (H1.out _).mono ?_); intro _) | (go_at_call 25; (with_reducible refine (H2.out _).mono ?_); intro _) | (go_at_call 25; (with_reducible refine (H3.out _).mono ?_); intro _) | (go_at_call 25; (with_reducible refine (H4.out _).mono ?_); intro _) | (go_at_call 32; (with_reducible refine (H6.out _).mono ?_); intro _) | (go_at_call 34; (with_reducible refine (H5.out _).mono ?_); intro _) | (go_at_call 23; (with_reducible refine (awake_any _).mono ?_); intro _))
    go_ret
    exact ⟨rfl, (by repeat (first | with_reducible exact Up.refl _ | apply Up.ext | apply Up.alloc | apply Up.drew | (refine Up.setCell ?_ (by simp; try omega) _)))⟩
  · have hD : mulDivE (-1000000 + x) (-1000000 + y) (-100000 + z) = mdE ((-1000000 + x) * (-1000000 + y)) (-100000 + z) := by unfold mulDivE; rw [if_pos ⟨hfit.1, hfit.2.1, hfit.2.2, by omega⟩]
    rw [hD] at D
    clear hD hfit
    have hzb : (-100000 + z == 0) = false := by simp; omega
    by_cases hneg : z < 100000
    · rw [flo_neg _ _ (by omega), show -((-1000000 + x) * (-1000000 + y)) = -(-1000000 + x) * (-1000000 + y) by grind] at D
      have hp' : -1000000000000 ≤ -(-1000000 + x) * (-1000000 + y) ∧ -(-1000000 + x) * (-1000000 + y) ≤ 1000000000000 := by
        rw [Int.neg_mul]; omega
      obtain ⟨A, hA⟩ : ∃ A, -1000000 + x = A := ⟨_, rfl⟩
      obtain ⟨B, hB⟩ : ∃ B, -1000000 + y = B := ⟨_, rfl⟩
      obtain ⟨C, hC⟩ : ∃ C, -100000 + z = C := ⟨_, rfl⟩
      obtain ⟨A2, hA2⟩ : ∃ A2, -A = A2 := ⟨_, rfl⟩
      obtain ⟨C2, hC2⟩ : ∃ C2, -C = C2 := ⟨_, rfl⟩
      rw [hA, hB, hA2] at hp'
      rw [hA, hB, hC, hA2, hC2] at D
      rw [hC] at hzb
      obtain ⟨lo, hi, e, f1, f2, f3, f4, f5, f6, f7, f8, f9, f10, f11, f12, t, f13, f14⟩ := round_facts _ C2 (by omega) (by omega) hp'.1 hp'.2
      rw [e] at D
      have H6 := hide D
      have b1 : -1000000 ≤ A ∧ A ≤ 1000000 := by omega
      have b2 : -1000000 ≤ B ∧ B ≤ 1000000 := by omega
      have b3 : -100000 ≤ C ∧ C < 0 := by omega
      have b4 : -1000000 ≤ A2 ∧ A2 ≤ 1000000 := by omega
      have b5 : 0 < C2 ∧ C2 ≤ 100000 := by omega
      obtain ⟨b1, b1'⟩ := b1
      obtain ⟨b2, b2'⟩ := b2
      obtain ⟨b3, b3'⟩ := b3
      obtain ⟨b4, b4'⟩ := b4
      obtain ⟨b5, b5'⟩ := b5
      clear D e hp hz
      obtain ⟨p0, p1⟩ := hp'
      (unfold Gives; go_enter Try.func8, Try.ntmps8)
      go_wp2_with (first | (go_at_call 25; (with_reducible refine (H1.out _).mono ?_); intro _) | (go_at_call 25; (with_reducible refine (H2.out _).mono ?_); intro _) | (go_at_call 25; (with_reducible refine (H3.out _).mono ?_); intro _) | (go_at_call 25; (with_reducible refine (H4.out _).mono ?_); intro _) | (go_at_call 32; (with_reducible refine (H6.out _).mono ?_); intro _) | (go_at_call 34; (with_reducible refine (H5.out _).mono ?_); intro _) | (go_at_call 23; (with_reducible refine (awake_any _).mono ?_); intro _))
      go_ret
      exact ⟨rfl, (by repeat (first | with_reducible exact Up.refl _ | apply Up.ext | apply Up.alloc | apply Up.drew | (refine Up.setCell ?_ (by simp; try omega) _)))⟩
    · have hp' : -1000000000000 ≤ (-1000000 + x) * (-1000000 + y) ∧ (-1000000 + x) * (-1000000 + y) ≤ 1000000000000 := by omega
      obtain ⟨lo, hi, e, f1, f2, f3, f4, f5, f6, f7, f8, f9, f10, f11, f12, t, f13, f14⟩ := round_facts _ (-100000 + z) (by omega) (by omega) hp'.1 hp'.2
      rw [e] at D
      have H6 := hide D
      have hpos : 100000 < z := by omega
      clear D e hp hz hneg
      obtain ⟨p0, p1⟩ := hp'
      (unfold Gives; go_enter Try.func8, Try.ntmps8)
      go_wp2_with (first | (go_at_call 25; (with_reducible refine (H1.out _).mono ?_); intro _) | (go_at_call 25; (with_reducible refine (H2.out _).mono ?_); intro _) | (go_at_call 25; (with_reducible refine (H3.out _).mono ?_); intro _) | (go_at_call 25; (with_reducible refine (H4.out _).mono ?_); intro _) | (go_at_call 32; (with_reducible refine (H6.out _).mono ?_); intro _) | (go_at_call 34; (with_reducible refine (H5.out _).mono ?_); intro _) | (go_at_call 23; (with_reducible refine (awake_any _).mono ?_); intro _))
      go_ret
      exact ⟨rfl, (by repeat (first | with_reducible exact Up.refl _ | apply Up.ext | apply Up.alloc | apply Up.drew | (refine Up.setCell ?_ (by simp; try omega) _)))⟩

set_option maxRecDepth 100000 in
theorem rounds_lifted (os : Os) (started : os.Started) (H : Type) (enc : TypeId × Value → H) :
    ReturnsInHanded {} Try.checked os 8 .any (Rows.spanRoundsSpec.pre6 enc Try.prog Try.f8 Rows.spanRoundsRow.domain false) (Rows.spanRoundsSpec.post enc Try.prog Try.f8 false true false false) := by
  refine returnsInHanded_of_change (C := Try.checked) knob_own started (by kernel_rfl) Try.func8
    (ChangeSpec.witness6 (enc := enc) (C := Try.checked) false ⟨#[], #[.int .i64 0, .int .i64 0, .int .i64 0, .int .i64 0], []⟩ 8 (by kernel_rfl) (by kernel_rfl) (by kernel_rfl) (by kernel_rfl)) ?_
  intro W base args ds gs before hval0 hW _ _
  have hval : ∀ (j : Nat) t v, Try.f8.params[j]? = some t → args[j]? = some v → Value.okWide Try.prog W .any base t v := hval0
  have hW' := hW
  obtain ⟨p, q, hA0, hV, rfl, _, _⟩ := hW
  have hA : DataW.TrodAll enc Try.prog W 0 (fun _ => true) true Try.f8.params.toList args.toList ds p := hA0
  rw [Try.params8] at hA hval
  obtain ⟨v0, vs0, d0, ds0, p0, q0, hargs, rfl, rfl, h0, r0⟩ := trodAll_cons hA
  obtain ⟨v1, vs1, d1, ds1, p1, q1, rfl, rfl, rfl, h1, r1⟩ := trodAll_cons r0
  obtain ⟨v2, vs2, d2, ds2, p2, q2, rfl, rfl, rfl, h2, r2⟩ := trodAll_cons r1
  obtain ⟨v3, vs3, d3, ds3, p3, q3, rfl, rfl, rfl, h3, r3⟩ := trodAll_cons r2
  obtain ⟨rfl, rfl, rfl⟩ := trodAll_nil r3
  obtain rfl : args = #[v0, v1, v2, v3] := by cases args; simp_all
  obtain ⟨rfl, rfl⟩ := trodVars_none hV
  obtain ⟨a0, rfl, rfl, rfl, w0⟩ := open_int Try.underlying2 (hval 0 2 v0 rfl rfl) h0
  obtain ⟨a1, rfl, rfl, rfl, w1⟩ := open_int Try.underlying2 (hval 1 2 v1 rfl rfl) h1
  obtain ⟨a2, rfl, rfl, rfl, w2⟩ := open_int Try.underlying2 (hval 2 2 v2 rfl rfl) h2
  obtain ⟨a3, rfl, rfl, rfl, w3⟩ := open_int Try.underlying2 (hval 3 2 v3 rfl rfl) h3
  clear hA0 hval0
  simp only [List.append_nil] at hW'
  refine (rounds_law a0 a1 a2 a3 (i64_bds w0) (i64_bds w1) (i64_bds w2) (i64_bds w3) W).mono fun px => ?_
  exact ⟨_, rfl, post_of_below (pa := []) (pv := []) hW' (fun _ _ _ => (trodAll_cons_mk (shut_bool Try.underlying4 _) trodAll_mk0)) (fun sp _ => (trodAll_cons_mk (shut_int Try.underlying2 w0) (trodAll_cons_mk (shut_int Try.underlying2 w1) (trodAll_cons_mk (shut_int Try.underlying2 w2) (trodAll_cons_mk (shut_int Try.underlying2 w3) trodAll_mk0))))) (fun _ _ => rfl) rfl
    (Up.below ⟨px, rfl⟩) (ok_one (by kernel_rfl) rfl (okWide_bool_mk Try.underlying4 _))⟩

theorem rounds_holds : Rows.SpanRoundsSaid :=
  OpenClaim.holds_of_wide 8 Try.f8 rfl rfl rfl rfl rfl rfl rfl ⟨rfl, rfl, rfl, rfl, rfl⟩ rfl rfl rfl rfl rfl (by kernel_rfl) Try.func8 (by kernel_rfl)
    (of_decide_eq_true (by kernel_rfl)) (by unfold Func.isWrapper; rw [if_neg (by decide +kernel)]; exact ⟨rfl, rfl⟩)
    (fun os started H enc _ => rounds_lifted os started H enc)
#print axioms rounds_holds
end Go.Proofs.Ytfpdnmfklmgmfaa
