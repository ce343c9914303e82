/- What surely comes within r of the origin: the parts of the way, and the whole. -/
import Derived.Test.YtfpdnmfklmgmfaaHits
import Derived.Test.YtfpdnmfklmgmfaaTail
import Derived.Outline
namespace Go.Proofs.Ytfpdnmfklmgmfaa
open Go.RowKit

theorem between_any (a b c d i : Int) (a0 : -268435456 ≤ a ∧ a ≤ 268435456) (b0 : -268435456 ≤ b ∧ b ≤ 268435456) (c0 : -268435456 ≤ c ∧ c ≤ 268435456) (d0 : -268435456 ≤ d ∧ d ≤ 268435456) (i0 : 0 ≤ i) (i1 : i ≤ 8) (w : World) :
    Gives Try.prog 105 #[.agg #[.int .i64 a, .int .i64 b], .agg #[.int .i64 c, .int .i64 d], .int .i64 i] w (.agg #[.int .i64 ((8 - i) * a + i * c), .int .i64 ((8 - i) * b + i * d)]) := by
  obtain ⟨j, hj⟩ : ∃ j, 8 - i = j := ⟨_, rfl⟩
  rw [hj]
  have m1 := mul_bd (x := j) (y := a) (B := 8) (C := 268435456) (by omega) (by omega) (by omega) (by omega)
  have m2 := mul_bd (x := j) (y := b) (B := 8) (C := 268435456) (by omega) (by omega) (by omega) (by omega)
  have m3 := mul_bd (x := i) (y := c) (B := 8) (C := 268435456) (by omega) (by omega) (by omega) (by omega)
  have m4 := mul_bd (x := i) (y := d) (B := 8) (C := 268435456) (by omega) (by omega) (by omega) (by omega)
  (unfold Gives; go_enter Try.func105, Try.ntmps105)
  go_wp2
  all_goals (refine bodyPost_give (by repeat (first | with_reducible exact Up.refl _ | apply Up.ext | apply Up.alloc | apply Up.drew | (refine Up.setCell ?_ (by simp; try omega) _))) rfl ⟨_, (by simp [results, Try.results105, go_sem]; rfl), ?_⟩)
  all_goals rfl

def aloneB (a : Ar) : Bool := decide (a.1 = a.2.1) && decide (a.2.2.1 = a.2.2.2)
theorem alone_any (a : Ar) (w : World) : Gives Try.prog 106 #[.agg #[.int .i64 a.1, .int .i64 a.2.1, .int .i64 a.2.2.1, .int .i64 a.2.2.2]] w (.tuple #[.agg #[.int .i64 a.1, .int .i64 a.2.2.1], .bool (aloneB a)]) := by
  by_cases h : a.1 = a.2.1
  · have hb : (a.1 == a.2.1) = true := by simp [h]
    have HE := hide (show aloneB a = (a.2.2.1 == a.2.2.2) by simp only [aloneB, h, decide_true, Bool.true_and]; rfl)
    clear h
    (unfold Gives; go_enter Try.func106, Try.ntmps106)
    go_wp2
    go_region
    all_goals go_wp2
    all_goals (refine bodyPost_give (by repeat (first | with_reducible exact Up.refl _ | apply Up.ext | apply Up.alloc | apply Up.drew | (refine Up.setCell ?_ (by simp; try omega) _))) rfl ⟨_, (by simp [results, Try.results106, go_sem]; rfl), ?_⟩)
    all_goals rw [HE.out]
  · have hb : (a.1 == a.2.1) = false := by simp [h]
    have HE := hide (show aloneB a = false by simp [aloneB, h])
    clear h
    (unfold Gives; go_enter Try.func106, Try.ntmps106)
    go_wp2
    go_region
    all_goals go_wp2
    all_goals (refine bodyPost_give (by repeat (first | with_reducible exact Up.refl _ | apply Up.ext | apply Up.alloc | apply Up.drew | (refine Up.setCell ?_ (by simp; try omega) _))) rfl ⟨_, (by simp [results, Try.results106, go_sem]; rfl), ?_⟩)
    all_goals rw [HE.out]

def blendA (a b : Ar) (i : Int) : Ar := ((8 - i) * a.1 + i * b.1, (8 - i) * a.2.1 + i * b.2.1, (8 - i) * a.2.2.1 + i * b.2.2.1, (8 - i) * a.2.2.2 + i * b.2.2.2)
theorem okA_iff {a : Ar} (h : okA a) : (-268435456 ≤ a.1 ∧ a.1 ≤ 268435456) ∧ (-268435456 ≤ a.2.1 ∧ a.2.1 ≤ 268435456) ∧ (-268435456 ≤ a.2.2.1 ∧ a.2.2.1 ≤ 268435456) ∧ (-268435456 ≤ a.2.2.2 ∧ a.2.2.2 ≤ 268435456) := by
  unfold okA farA at h
  simp only [Bool.and_eq_true, far_iff] at h
  exact h
theorem blend_bd {x y i : Int} (hx : -268435456 ≤ x ∧ x ≤ 268435456) (hy : -268435456 ≤ y ∧ y ≤ 268435456) (i0 : 0 ≤ i) (i1 : i ≤ 8) : -2147483648 ≤ (8 - i) * x + i * y ∧ (8 - i) * x + i * y ≤ 2147483648 := by
  have h1 := Int.mul_le_mul_of_nonneg_left hx.1 (show 0 ≤ 8 - i by omega)
  have h2 := Int.mul_le_mul_of_nonneg_left hx.2 (show 0 ≤ 8 - i by omega)
  have h3 := Int.mul_le_mul_of_nonneg_left hy.1 i0
  have h4 := Int.mul_le_mul_of_nonneg_left hy.2 i0
  omega
theorem blend_ok {a b : Ar} (ha : okA a) (hb : okA b) {i : Int} (i0 : 0 ≤ i) (i1 : i ≤ 8) : okB (blendA a b i) := by
  obtain ⟨a1, a2, a3, a4⟩ := okA_iff ha
  obtain ⟨b1, b2, b3, b4⟩ := okA_iff hb
  exact ⟨blend_bd a1 b1 i0 i1, blend_bd a2 b2 i0 i1, blend_bd a3 b3 i0 i1, blend_bd a4 b4 i0 i1⟩

def partB (a b : Ar) (r : Int) : Bool := (List.range 9).any fun i => allB (blendA a b (i : Int)) r
def hitsB (a b : Ar) (r : Int) : Bool := rightB a b r && (partB a b r || ((aloneB a && aloneB b) && comesB a.1 a.2.2.1 b.1 b.2.2.1 r))

theorem hits_any (a b : Ar) (r : Int) (w : World) : Gives Try.prog 63 #[.agg #[.int .i64 a.1, .int .i64 a.2.1, .int .i64 a.2.2.1, .int .i64 a.2.2.2], .agg #[.int .i64 b.1, .int .i64 b.2.1, .int .i64 b.2.2.1, .int .i64 b.2.2.2], .int .i64 r] w (.bool (hitsB a b r)) := by
  by_cases hr : rightB a b r = true
  · obtain ⟨ha, hb, r0, r1⟩ := right_ok hr
    have ha' := okA_iff ha
    have hb' := okA_iff hb
    have HA := hide (And.intro ha hb)
    have HB := hide (And.intro ha' hb')
    clear ha hb ha' hb'
    (unfold Gives; go_enter Try.func63, Try.ntmps63)
    go_wp2_with (go_at_call 103; (with_reducible refine (right_any _ _ _ _).mono ?_); intro _)
    go_loopw [17] (fun s17 wr => ∃ k : Nat, k ≤ 9 ∧ s17 = .int .i64 k ∧ Hid ((∀ i : Nat, i < k → allB (blendA a b (i : Int)) r = false) ∧ Up w wr ∧ Box wr w.heap.size #[.int .i64 a.1, .int .i64 a.2.1, .int .i64 a.2.2.1, .int .i64 a.2.2.2] 44 ∧ Box wr (w.heap.size + 1) #[.int .i64 b.1, .int .i64 b.2.1, .int .i64 b.2.2.1, .int .i64 b.2.2.2] 44)) (fun s17 _ => 9 - (intOf s17).toNat)
    case atStart => exact ⟨0, by omega, rfl, hide ⟨by omega, (by repeat (first | with_reducible exact Up.refl _ | apply Up.ext | apply Up.alloc | apply Up.drew | (refine Up.setCell ?_ (by simp; try omega) _))), (((Box.mk rfl).alloc _).ext _), ((Box.mk (by simp)).ext _)⟩⟩
    case round =>
      obtain ⟨k, hk, rfl, hR⟩ := hrel
      have c0 := hR.out.2.2.1.cell 0 rfl
      have c1 := hR.out.2.2.1.cell 1 rfl
      have c2 := hR.out.2.2.1.cell 2 rfl
      have c3 := hR.out.2.2.1.cell 3 rfl
      have d0 := hR.out.2.2.2.cell 0 rfl
      have d1 := hR.out.2.2.2.cell 1 rfl
      have d2 := hR.out.2.2.2.cell 2 rfl
      have d3 := hR.out.2.2.2.cell 3 rfl
      have l1 := hR.out.2.2.2.lt
      by_cases hlt : k < 9
      · have hkb : decide ((k : Int) < 9) = true := by simp; omega
        have k0 : (0 : Int) ≤ k := by omega
        have k1 : (k : Int) ≤ 8 := by omega
        have K1 := hide (fun W => between_any a.1 a.2.1 b.1 b.2.1 k HB.out.1.1 HB.out.1.2.1 HB.out.2.1 HB.out.2.2.1 k0 k1 W)
        have K2 := hide (fun W => between_any a.2.2.1 a.2.2.2 b.2.2.1 b.2.2.2 k HB.out.1.2.2.1 HB.out.1.2.2.2 HB.out.2.2.2.1 HB.out.2.2.2.2 k0 k1 W)
        have K3 := hide (fun W => all_any (blendA a b k) r (blend_ok HA.out.1 HA.out.2 k0 k1) r0 r1 W)
        unfold blendA at K3
        obtain ⟨e0, h0⟩ : ∃ e, (8 - (k : Int)) * a.1 + k * b.1 = e := ⟨_, rfl⟩
        obtain ⟨e1, h1⟩ : ∃ e, (8 - (k : Int)) * a.2.1 + k * b.2.1 = e := ⟨_, rfl⟩
        obtain ⟨e2, h2⟩ : ∃ e, (8 - (k : Int)) * a.2.2.1 + k * b.2.2.1 = e := ⟨_, rfl⟩
        obtain ⟨e3, h3⟩ : ∃ e, (8 - (k : Int)) * a.2.2.2 + k * b.2.2.2 = e := ⟨_, rfl⟩
        rw [h0, h1] at K1
        rw [h2, h3] at K2
        rw [h0, h1, h2, h3] at K3
        obtain ⟨t, ht⟩ : ∃ t, allB (e0, e1, e2, e3) r = t := ⟨_, rfl⟩
        rw [ht] at K3
        have HT := hide (show allB (blendA a b (k : Int)) r = t by unfold blendA; rw [h0, h1, h2, h3, ht])
        clear h0 h1 h2 h3 ht
        cases t
        · go_wp2
          ((first | with_reducible refine wp_region_ext2 (by kernel_rfl) (by kernel_rfl) ?_ | refine wp_region_ext (by kernel_rfl) (by kernel_rfl) ?_); (repeat (go_big_quiet_step ((first | (go_at_call 105; with_reducible exact Gives.inRegion (K1.out _)) | (go_at_call 105; with_reducible exact Gives.inRegion (K2.out _)) | (go_at_call 104; exact Gives.inRegion (K3.out _)))))); refine wpQuiet_nil ?_; intro _ hw'; obtain ⟨_, hw''⟩ := hw'; subst hw'')
          go_wp2
          refine ⟨⟨k + 1, by omega, by go_num, hide ⟨fun i hi => ?_, ?_, ?_, ?_⟩⟩, by simp [intOf]; omega⟩
          · rcases Nat.lt_or_ge i k with h | h
            · exact hR.out.1 i h
            · obtain rfl : i = k := by omega
              exact HT.out
          · exact hR.out.2.1.ext _
          · exact hR.out.2.2.1.ext _
          · exact hR.out.2.2.2.ext _
        · go_wp2
          ((first | with_reducible refine wp_region_ext2 (by kernel_rfl) (by kernel_rfl) ?_ | refine wp_region_ext (by kernel_rfl) (by kernel_rfl) ?_); (repeat (go_big_quiet_step ((first | (go_at_call 105; with_reducible exact Gives.inRegion (K1.out _)) | (go_at_call 105; with_reducible exact Gives.inRegion (K2.out _)) | (go_at_call 104; exact Gives.inRegion (K3.out _)))))); refine wpQuiet_nil ?_; intro _ hw'; obtain ⟨_, hw''⟩ := hw'; subst hw'')
          go_wp2
          go_ret
          refine ⟨ret_bool ?_, hR.out.2.1.ext _⟩
          have hp : partB a b r = true := List.any_eq_true.2 ⟨k, by simp; omega, HT.out⟩
          unfold hitsB
          rw [hr, hp]; rfl
      · have hkb : decide ((k : Int) < 9) = false := by simp; omega
        obtain rfl : k = 9 := by omega
        have hp : partB a b r = false := by
          unfold partB
          rw [List.any_eq_false]
          intro i hi
          rw [hR.out.1 i (by simpa using hi)]; simp
        have HP := hide (show hitsB a b r = ((aloneB a && aloneB b) && comesB a.1 a.2.2.1 b.1 b.2.2.1 r) by unfold hitsB; rw [hr, hp]; rfl)
        have K1 := hide (fun W => comes_any a.1 a.2.2.1 b.1 b.2.2.1 r HB.out.1.1.1 HB.out.1.1.2 HB.out.1.2.2.1.1 HB.out.1.2.2.1.2 HB.out.2.1.1 HB.out.2.1.2 HB.out.2.2.2.1.1 HB.out.2.2.2.1.2 r0 (by omega) W)
        have K2 := hide (fun W => alone_any a W)
        have K3 := hide (fun W => alone_any b W)
        clear hp
        generalize aloneB a = ta at *
        generalize aloneB b = tb at *
        cases ta <;> cases tb
        all_goals go_wp2_with (first | (go_at_call 106; (with_reducible refine (K2.out _).mono ?_); intro _) | (go_at_call 106; (with_reducible refine (K3.out _).mono ?_); intro _) | (go_at_call 77; (with_reducible refine (K1.out _).mono ?_); intro _))
        all_goals go_ret
        all_goals exact ⟨by rw [HP.out]; rfl, by repeat (first | exact hR.out.2.1 | apply Up.ext | apply Up.alloc)⟩
  · have hr' : rightB a b r = false := Bool.eq_false_iff.2 hr
    rw [show hitsB a b r = false by unfold hitsB; rw [hr']; rfl]
    clear hr
    (unfold Gives; go_enter Try.func63, Try.ntmps63)
    go_wp2_with (go_at_call 103; (with_reducible refine (right_any _ _ _ _).mono ?_); intro _)
    go_ret
    exact ⟨rfl, (by repeat (first | with_reducible exact Up.refl _ | apply Up.ext | apply Up.alloc | apply Up.drew | (refine Up.setCell ?_ (by simp; try omega) _)))⟩
end Go.Proofs.Ytfpdnmfklmgmfaa
