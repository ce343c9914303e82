/- Plain facts about quotients of small spans: what they are, and that they enclose. -/
import Derived.Test.YtbcgdhldkanecaaEnc
namespace Go.Proofs.Ytbcgdhldkanecaa
open Go.RowKit

theorem flo_iff (n p c : Int) (hc : c ≠ 0) : n ≤ floQ p c ↔ (0 < c ∧ n * c ≤ p) ∨ (c < 0 ∧ p ≤ n * c) := by
  unfold floQ
  split
  · rename_i h
    rw [Int.le_ediv_iff_mul_le (by omega), Int.mul_neg]
    omega
  · rename_i h
    rw [Int.le_ediv_iff_mul_le (by omega)]
    omega
theorem flo_bd {p c : Int} (hc : c ≠ 0) (p0 : -1000000 ≤ p) (p1 : p ≤ 1000000) : -1000000 ≤ floQ p c ∧ floQ p c ≤ 1000000 := by
  refine ⟨(flo_iff _ _ _ hc).2 (by omega), ?_⟩
  have h := mt (flo_iff 1000001 p c hc).1
  by_cases h2 : floQ p c ≤ 1000000
  · exact h2
  · have := (flo_iff 1000001 p c hc).1 (by omega)
    omega
theorem md_val {p c : Int} (hc : c ≠ 0) (p0 : -1000000 ≤ p) (p1 : p ≤ 1000000) : mdE p c = (floQ p c, ceiQ p c, 0) := by
  have h1 := flo_bd hc p0 p1
  have h2 := flo_bd (p := -p) hc (by omega) (by omega)
  unfold mdE ceiQ
  rw [if_pos (by omega)]
theorem cei_flo {p c : Int} (hc : c ≠ 0) : floQ p c ≤ ceiQ p c := by
  unfold ceiQ
  have h1 := (flo_iff (floQ p c) p c hc).1 (Int.le_refl _)
  have h2 := (flo_iff (floQ (-p) c) (-p) c hc).1 (Int.le_refl _)
  by_cases h : floQ p c ≤ -floQ (-p) c
  · exact h
  · have h3 : 1 ≤ floQ p c + floQ (-p) c := by omega
    have e : (floQ p c + floQ (-p) c) * c = floQ p c * c + floQ (-p) c * c := Int.add_mul _ _ _
    rcases Int.lt_or_gt_of_ne hc with hc0 | hc0
    · have := Int.mul_le_mul_of_nonpos_right h3 (show c ≤ 0 by omega)
      omega
    · have := Int.mul_le_mul_of_nonneg_right h3 (show 0 ≤ c by omega)
      omega

/-- a floor among those of the corners -/
theorem flo_between {a b c d x y n : Int} (h0 : a ≤ x) (h1 : x ≤ b) (h2 : c ≤ y) (h3 : y ≤ d) (hz : ¬ (c ≤ 0 ∧ 0 ≤ d))
    (n1 : n ≤ floQ a c) (n2 : n ≤ floQ a d) (n3 : n ≤ floQ b c) (n4 : n ≤ floQ b d) : n ≤ floQ x y := by
  rw [flo_iff _ _ _ (by omega)] at n1 n2 n3 n4 ⊢
  have e := lin_bd (x := n) h2 h3
  omega

theorem quot_val {a b c d : Int} (ab : a ≤ b) (cd : c ≤ d) (a0 : -1000000 ≤ a) (b1 : b ≤ 1000000) (c0 : -1000000 ≤ c) (d1 : d ≤ 1000000) (hz : ¬ (c ≤ 0 ∧ 0 ≤ d)) :
    ∃ l m : Int, quotS a b c d = (l, m, 0) ∧ -1000000 ≤ l ∧ l ≤ m ∧ m ≤ 1000000 ∧ (∀ x y, a ≤ x → x ≤ b → c ≤ y → y ≤ d → l ≤ floQ x y ∧ ceiQ x y ≤ m) ∧ (l = floQ a c ∨ l = floQ a d ∨ l = floQ b c ∨ l = floQ b d) ∧ (m = ceiQ a c ∨ m = ceiQ a d ∨ m = ceiQ b c ∨ m = ceiQ b d) := by
  have v := valid_ok (check_ok (a := a) (b := b) (by omega) ab (by omega)) (check_ok (a := c) (b := d) (by omega) cd (by omega))
  have hc : c ≠ 0 := by omega
  have hd : d ≠ 0 := by omega
  have e1 := md_val (p := a) hc (by omega) (by omega)
  have e2 := md_val (p := a) hd (by omega) (by omega)
  have e3 := md_val (p := b) hc (by omega) (by omega)
  have e4 := md_val (p := b) hd (by omega) (by omega)
  have b1' := flo_bd (p := a) hc (by omega) (by omega)
  have b2' := flo_bd (p := a) hd (by omega) (by omega)
  have b3' := flo_bd (p := b) hc (by omega) (by omega)
  have b4' := flo_bd (p := b) hd (by omega) (by omega)
  have g1 := flo_bd (p := -a) hc (by omega) (by omega)
  have g2 := flo_bd (p := -a) hd (by omega) (by omega)
  have g3 := flo_bd (p := -b) hc (by omega) (by omega)
  have g4 := flo_bd (p := -b) hd (by omega) (by omega)
  have f1 := cei_flo (p := a) hc
  have f2 := cei_flo (p := a) hd
  have f3 := cei_flo (p := b) hc
  have f4 := cei_flo (p := b) hd
  obtain ⟨l, hl⟩ : ∃ l, min (min (min (floQ a c) (floQ a d)) (floQ b c)) (floQ b d) = l := ⟨_, rfl⟩
  obtain ⟨m, hm⟩ : ∃ m, max (max (max (ceiQ a c) (ceiQ a d)) (ceiQ b c)) (ceiQ b d) = m := ⟨_, rfl⟩
  have hce : ∀ p q, ceiQ p q = -floQ (-p) q := fun _ _ => rfl
  rw [hce, hce, hce, hce] at hm
  refine ⟨l, m, ?_, by omega, ?_, by omega, fun x y h0 h1 h2 h3 => ⟨?_, ?_⟩, by omega, ?_⟩
  · unfold quotS
    rw [if_pos v, if_neg hz]
    unfold combE four
    rw [if_pos v, if_pos (by simp only [err, e1, e2, e3, e4, if_true])]
    simp only [acc, List.foldl_cons, List.foldl_nil, e1, e2, e3, e4]
    rw [hce, hce, hce, hce]
    congr 1
    · omega
    · congr 1; omega
  · rw [hce] at f1; omega
  · exact flo_between h0 h1 h2 h3 hz (by omega) (by omega) (by omega) (by omega)
  · rw [hce]
    have := flo_between (a := -b) (b := -a) (x := -x) (n := -m) (by omega) (by omega) h2 h3 hz (by omega) (by omega) (by omega) (by omega)
    omega
  · rw [hce, hce, hce, hce]; omega
end Go.Proofs.Ytbcgdhldkanecaa
