/- sort.Search, and how near a segment comes in whole numbers. -/
import Derived.Test.YtfpdnmfklmgmfaaPlaneB
namespace Go.Proofs.Ytfpdnmfklmgmfaa
open Go.RowKit

/-- bisection, as sort.Search does it -/
def bis (F : Int → Bool) (i j : Nat) : Nat := if i < j then (if F (((i + j) / 2 : Nat) : Int) then bis F i ((i + j) / 2) else bis F ((i + j) / 2 + 1) j) else i
  termination_by j - i
theorem bis_eq (F : Int → Bool) (k : Nat) : ∀ n i j : Nat, j - i ≤ n → i ≤ k → k ≤ j → (∀ x : Nat, i ≤ x → x < k → F x = false) → (∀ x : Nat, k ≤ x → x < j → F x = true) → bis F i j = k := by
  intro n
  induction n with
  | zero => intro i j h0 h1 h2 _ _; rw [bis, if_neg (by omega)]; omega
  | succ n ih =>
    intro i j h0 h1 h2 h3 h4
    rw [bis]
    by_cases hij : i < j
    · rw [if_pos hij]
      by_cases hF : F (((i + j) / 2 : Nat) : Int) = true
      · rw [if_pos hF]
        have hk : k ≤ (i + j) / 2 := by
          rcases Nat.lt_or_ge ((i + j) / 2) k with h | h
          · rw [h3 _ (by omega) h] at hF; cases hF
          · exact h
        exact ih i _ (by omega) h1 hk h3 (fun x hx hx2 => h4 x hx (by omega))
      · rw [if_neg hF]
        have hk : (i + j) / 2 + 1 ≤ k := by
          rcases Nat.lt_or_ge ((i + j) / 2) k with h | h
          · exact h
          · exact absurd (h4 _ h (by omega)) hF
        exact ih _ j (by omega) hk h2 (fun x hx hx2 => h3 x (by omega) hx2) h4
    · rw [if_neg hij]; omega

theorem search_any (g : Nat) (cap : Array Value) (eg : ∀ args w, (callFunc g args).run Try.prog w = .ok (.enter g args) w) (F : Int → Bool) (n : Nat) (hn : n ≤ 1073741824) (w : World)
    (hF : ∀ (k : Nat) W, k < n → Up w W → Gives Try.prog g (#[.int .i64 k] ++ cap) W (.bool (F k))) :
    Gives Try.prog 79 #[.int .i64 n, .func (.func g) #[] cap] w (.int .i64 (bis F 0 n)) := by
  have HF := hide hF
  clear hF
  (unfold Gives; go_enter Try.func79, Try.ntmps79)
  go_wp2
  go_loopw [5, 6] (fun s5 s6 wr => ∃ i j : Nat, i ≤ j ∧ j ≤ n ∧ s5 = .int .i64 i ∧ s6 = .int .i64 j ∧ Up w wr ∧ Hid (bis F i j = bis F 0 n)) (fun s5 s6 _ => (intOf s6 - intOf s5).toNat)
  case atStart => exact ⟨0, n, by omega, by omega, rfl, rfl, Up.refl _, hide rfl⟩
  case round =>
    obtain ⟨i, j, h1, h2, rfl, rfl, hu, hb⟩ := hrel
    by_cases hlt : i < j
    · have hkb : decide ((i : Int) < j) = true := by simp; omega
      obtain ⟨h, hh⟩ : ∃ h, (i + j) / 2 = h := ⟨_, rfl⟩
      have hh' : ((i : Int) + j) / 2 = h := by omega
      have hs := hb.out
      rw [bis, if_pos hlt, hh] at hs
      have HC := hide (HF.out h _ (by omega) hu)
      have HH := hide hh
      clear hb
      by_cases hF : F (h : Int) = true
      · rw [if_pos hF] at hs
        have HS := hide hs
        clear hs hh
        go_wp2
        refine HC.out.mono ?_
        intro px
        go_wp2
        refine ⟨⟨i, h, by have := HH.out; omega, by have := HH.out; omega, rfl, rfl, hu.ext _, HS⟩, by simp [intOf]; have := HH.out; omega⟩
      · rw [if_neg hF] at hs
        have hF' : F (h : Int) = false := Bool.eq_false_iff.2 hF
        have HS := hide hs
        clear hs hh hF
        go_wp2
        refine HC.out.mono ?_
        intro px
        go_wp2
        refine ⟨⟨h + 1, j, by have := HH.out; omega, by have := HH.out; omega, by go_num, rfl, hu.ext _, HS⟩, by simp [intOf]; have := HH.out; omega⟩
    · have hkb : decide ((i : Int) < j) = false := by simp; omega
      obtain rfl : i = j := by omega
      have hs := hb.out
      rw [bis, if_neg hlt] at hs
      clear hb
      go_wp2
      go_ret
      exact ⟨by rw [← hs]; rfl, hu⟩

theorem miss1_any (A B : Nat) (px py qx qy h : Int) (p0 : -268435456 ≤ px) (p1 : px ≤ 268435456) (p2 : -268435456 ≤ py) (p3 : py ≤ 268435456)
    (q0 : -268435456 ≤ qx) (q1 : qx ≤ 268435456) (q2 : -268435456 ≤ qy) (q3 : qy ≤ 268435456) (r0 : 0 ≤ h) (r1 : h ≤ 536870912) (w : World)
    (hA : w.cell? ⟨A, 0, none⟩ = some (.int .i64 px)) (hA2 : w.cell? ⟨A, 1, none⟩ = some (.int .i64 py)) (hB : w.cell? ⟨B, 0, none⟩ = some (.int .i64 qx)) (hB2 : w.cell? ⟨B, 1, none⟩ = some (.int .i64 qy)) :
    Gives Try.prog 80 #[.int .i64 h, .pointer (some ⟨A, 0, none⟩), .pointer (some ⟨B, 0, none⟩)] w (.bool (comesB px py qx qy h)) := by
  (unfold Gives; go_enter Try.func80, Try.ntmps80)
  go_wp2_with (go_at_call 77; refine (comes_any _ _ _ _ _ (by omega) (by omega) (by omega) (by omega) (by omega) (by omega) (by omega) (by omega) (by omega) (by omega) _).mono ?_; intro _)
  go_ret
  exact ⟨rfl, (by repeat (first | with_reducible exact Up.refl _ | apply Up.ext | apply Up.alloc | apply Up.drew | (refine Up.setCell ?_ (by simp; try omega) _)))⟩

/-- the least whole number r with which the segment comes within r -/
def missV (px py qx qy : Int) : Int := if asks2B px py qx qy 0 = true then (bis (comesB px py qx qy) 0 536870912 : Nat) else -1
theorem miss_any (px py qx qy : Int) (w : World) :
    Gives Try.prog 21 #[.agg #[.int .i64 px, .int .i64 py], .agg #[.int .i64 qx, .int .i64 qy]] w (.int .i64 (missV px py qx qy)) := by
  by_cases h : asks2B px py qx qy 0 = true
  · have hn : missV px py qx qy = (bis (comesB px py qx qy) 0 536870912 : Nat) := by unfold missV; rw [if_pos h]
    have h' := h
    unfold asks2B at h'
    simp only [Bool.and_eq_true, farV_iff, withinB, decide_eq_true_eq] at h'
    rw [hn]
    clear hn
    (unfold Gives; go_enter Try.func21, Try.ntmps21)
    go_wp2_with (go_at_call 72; refine (asks2 _ _ _ _ _ _ _ (by simp)).mono ?_; intro _)
    refine (search_any 80 _ (enters_of Try.func80 (by kernel_rfl) rfl) (comesB px py qx qy) 536870912 (by omega) _ (fun k W hk hW => ?_)).mono ?_
    · have b1 := (((((Box.mk (w := w) (c := #[.int .i64 px, .int .i64 py]) (t := 23) rfl).alloc _).alloc _).ext _).up hW)
      have b2 := ((((Box.mk (w := w.alloc (.cells #[.int .i64 px, .int .i64 py] 23)) (b := w.heap.size + 1) (c := #[.int .i64 qx, .int .i64 qy]) (t := 23) (by simp)).alloc _).ext _).up hW)
      exact miss1_any _ _ px py qx qy k (by omega) (by omega) (by omega) (by omega) (by omega) (by omega) (by omega) (by omega) (by omega) (by omega) W (b1.cell 0 rfl) (b1.cell 1 rfl) (b2.cell 0 rfl) (b2.cell 1 rfl)
    · intro px
      go_wp2
      go_ret
      exact ⟨rfl, (by repeat (first | with_reducible exact Up.refl _ | apply Up.ext | apply Up.alloc | apply Up.drew | (refine Up.setCell ?_ (by simp; try omega) _)))⟩
  · have h' : asks2B px py qx qy 0 = false := Bool.eq_false_iff.2 h
    have hn : missV px py qx qy = -1 := by unfold missV; rw [if_neg h]
    rw [hn]
    clear h hn
    (unfold Gives; go_enter Try.func21, Try.ntmps21)
    go_wp2_with (go_at_call 72; refine (asks2 _ _ _ _ _ _ _ (by simp)).mono ?_; intro _)
    go_ret
    exact ⟨rfl, (by repeat (first | with_reducible exact Up.refl _ | apply Up.ext | apply Up.alloc | apply Up.drew | (refine Up.setCell ?_ (by simp; try omega) _)))⟩

end Go.Proofs.Ytfpdnmfklmgmfaa
