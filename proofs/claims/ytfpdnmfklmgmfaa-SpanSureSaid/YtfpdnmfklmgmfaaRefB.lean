/- The document's own bisection for how near a segment comes. -/
import Derived.Test.YtfpdnmfklmgmfaaRefA
namespace Go.Proofs.Ytfpdnmfklmgmfaa
open Go.RowKit

theorem pow30 (T : Nat) (h : T < 536870912) : (T : Int) ≤ -1 + ((2 ^ 30 : Nat) : Int) := by
  have : ((2 ^ 30 : Nat) : Int) = 1073741824 := by decide
  omega
theorem half_pow (n : Nat) : ((2 ^ (n + 1) : Nat) : Int) / 2 = ((2 ^ n : Nat) : Int) := by rw [Nat.pow_succ]; omega
theorem pow_le30 {n : Nat} (h : n ≤ 30) : 2 ^ n ≤ 1073741824 := Nat.pow_le_pow_right (by omega) h

theorem rmiss_any (px py qx qy : Int) (w : World) :
    Gives Try.prog 22 #[.agg #[.int .i64 px, .int .i64 py], .agg #[.int .i64 qx, .int .i64 qy]] w (.int .i64 (missV px py qx qy)) := by
  by_cases h1 : farV (px, py) = true
  · by_cases h2 : farV (qx, qy) = true
    · have ha : asks2B px py qx qy 0 = true := by unfold asks2B; rw [h1, h2]; rfl
      obtain ⟨T, hT⟩ : ∃ T, bis (comesB px py qx qy) 0 536870912 = T := ⟨_, rfl⟩
      have hn : missV px py qx qy = T := by unfold missV; rw [if_pos ha, hT]
      obtain ⟨t1, t2, t3⟩ := bis_comes px py qx qy
      simp only [hT] at t1 t2 t3
      have h1' := (farV_iff _).1 h1
      have h2' := (farV_iff _).1 h2
      simp only at h1' h2'
      have hlt : T < 536870912 := by
        rcases Nat.lt_or_ge T 536870912 with h | h
        · exact h
        · have := t2 536870911 (by omega)
          rw [show comesB px py qx qy ((536870911 : Nat) : Int) = true from comes_p (near_all (px := px) (py := py) (by omega) (by omega) (by omega) (by omega))] at this
          cases this
      have HT := hide (And.intro t2 (t3 hlt))
      rw [hn]
      clear hn t2 t3 hT ha
      (unfold Gives; go_enter Try.func22, Try.ntmps22)
      go_wp2_with (go_at_call 74; refine (rplace_any _ _ _).mono ?_; intro _)
      go_loopw [5, 6] (fun s5 s6 wr => ∃ (r b : Int) (n : Nat), n ≤ 30 ∧ s5 = .int .i64 r ∧ s6 = .int .i64 b ∧ Hid (b = ((2 ^ n : Nat) : Int) / 2) ∧ 0 ≤ b ∧ b ≤ 536870912 ∧ -1 ≤ r ∧ r + 2 * b ≤ 1073741823 ∧ r < T ∧ Hid ((T : Int) ≤ r + ((2 ^ n : Nat) : Int)) ∧ Hid (Up w wr ∧ Box wr w.heap.size #[.int .i64 px, .int .i64 py] 23 ∧ Box wr (w.heap.size + 1) #[.int .i64 qx, .int .i64 qy] 23)) (fun _ s6 _ => (intOf s6).toNat)
      case atStart =>
        exact ⟨-1, 536870912, 30, by omega, rfl, rfl, hide (by decide), by omega, by omega, by omega, by omega, by omega, hide (pow30 T hlt),
          hide ⟨(by repeat (first | with_reducible exact Up.refl _ | apply Up.ext | apply Up.alloc | apply Up.drew | (refine Up.setCell ?_ (by simp; try omega) _))), (((Box.mk (by simp)).alloc _).ext _), (Box.mk (by simp)).ext _⟩⟩
      case round =>
        obtain ⟨r, b, n, hn, rfl, rfl, hb, hb0, hb1, hr0, hr1, hrT, hTr, hw⟩ := hrel
        have b1 := hw.out.2.1.cell 0 rfl
        have b2 := hw.out.2.1.cell 1 rfl
        have b3 := hw.out.2.2.cell 0 rfl
        have b4 := hw.out.2.2.cell 1 rfl
        by_cases hbp : 0 < b
        · have hbd : decide (b > 0) = true := by simp; omega
          obtain ⟨k, rfl⟩ : ∃ k, n = k + 1 := ⟨n - 1, by
            rcases Nat.eq_zero_or_pos n with h | h
            · subst h; have := hb.out; simp at this; omega
            · omega⟩
          have hbk : Hid (b = ((2 ^ k : Nat) : Int)) := hide (by rw [← half_pow]; exact hb.out)
          clear hb
          by_cases hF : comesB px py qx qy (r + b) = true
          · go_wp2_with (go_at_call 78; refine (rwithin_any _ _ _ _ _ (by omega) (by omega) (by omega) (by omega) (by omega) (by omega) (by omega) (by omega) (by omega) (by omega) _).mono ?_; intro _)
            have hTb : (T : Int) ≤ r + b := by
              rcases Int.lt_or_le (r + b) T with h | h
              · obtain ⟨x, hx⟩ := Int.eq_ofNat_of_zero_le (show 0 ≤ r + b by omega)
                have := HT.out.1 x (by omega)
                rw [← hx, hF] at this; cases this
              · omega
            have e := hbk.out
            exact ⟨⟨r, b / 2, k, by omega, rfl, rfl, hide (by rw [e]), by omega, by omega, hr0, by omega, hrT, hide (by rw [← e]; exact hTb), hide ⟨hw.out.1.ext _, hw.out.2.1.ext _, hw.out.2.2.ext _⟩⟩, by simp [intOf]; omega⟩
          · have hF' : comesB px py qx qy (r + b) = false := Bool.eq_false_iff.2 hF
            clear hF
            go_wp2_with (go_at_call 78; refine (rwithin_any _ _ _ _ _ (by omega) (by omega) (by omega) (by omega) (by omega) (by omega) (by omega) (by omega) (by omega) (by omega) _).mono ?_; intro _)
            have hTb : r + b < (T : Int) := by
              rcases Int.lt_or_le (r + b) T with h | h
              · exact h
              · have := HT.out.2 (r + b) (by omega)
                rw [hF'] at this; cases this
            have e := hbk.out
            have e2 := hTr.out
            rw [Nat.pow_succ] at e2
            exact ⟨⟨r + b, b / 2, k, by omega, rfl, rfl, hide (by rw [e]), by omega, by omega, by omega, by omega, hTb, hide (by omega), hide ⟨hw.out.1.ext _, hw.out.2.1.ext _, hw.out.2.2.ext _⟩⟩, by simp [intOf]; omega⟩
        · have hbd : decide (b > 0) = false := by simp; omega
          obtain rfl : b = 0 := by omega
          obtain rfl : n = 0 := by
            rcases Nat.eq_zero_or_pos n with h | h
            · exact h
            · obtain ⟨k, rfl⟩ : ∃ k, n = k + 1 := ⟨n - 1, by omega⟩
              have h2 := hb.out
              rw [half_pow] at h2
              have : 0 < 2 ^ k := Nat.two_pow_pos k
              omega
          have hTr' : (T : Int) ≤ r + 1 := hTr.out
          obtain rfl : r = T - 1 := by omega
          clear hTr hb
          go_wp2
          go_ret
          exact ⟨rfl, hw.out.1⟩
    · have h2' : farV (qx, qy) = false := Bool.eq_false_iff.2 h2
      have ha : asks2B px py qx qy 0 = false := by unfold asks2B; rw [h1, h2']; rfl
      have hn : missV px py qx qy = -1 := by unfold missV; rw [ha]; rfl
      rw [hn]
      clear hn h2 ha
      (unfold Gives; go_enter Try.func22, Try.ntmps22)
      go_wp2_with (go_at_call 74; refine (rplace_any _ _ _).mono ?_; intro _)
      go_ret
      exact ⟨rfl, (by repeat (first | with_reducible exact Up.refl _ | apply Up.ext | apply Up.alloc | apply Up.drew | (refine Up.setCell ?_ (by simp; try omega) _)))⟩
  · have h1' : farV (px, py) = false := Bool.eq_false_iff.2 h1
    have ha : asks2B px py qx qy 0 = false := by unfold asks2B; rw [h1']; rfl
    have hn : missV px py qx qy = -1 := by unfold missV; rw [ha]; rfl
    rw [hn]
    clear hn h1 ha
    (unfold Gives; go_enter Try.func22, Try.ntmps22)
    go_wp2_with (go_at_call 74; refine (rplace_any _ _ _).mono ?_; intro _)
    go_ret
    exact ⟨rfl, (by repeat (first | with_reducible exact Up.refl _ | apply Up.ext | apply Up.alloc | apply Up.drew | (refine Up.setCell ?_ (by simp; try omega) _)))⟩
end Go.Proofs.Ytfpdnmfklmgmfaa
