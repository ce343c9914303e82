/- Places: are their numbers in range, lengths, crosses and dots. -/
import Derived.Test.YtbcgdhldkanecaaSpanE
import Derived.Deep.DeepCutAuto
namespace Go.Proofs.Ytbcgdhldkanecaa
open Go.RowKit

def farB (n : Int) : Bool := withinB n (-268435456) 268435456
theorem far_list (s : Nat) (l : List Int) (w : World) (hs : s < w.heap.size) (hn : l.length ≤ 16) (hc : ∀ k, (h : k < l.length) → w.cell? ⟨s, k, none⟩ = some (.int .i64 l[k])) :
    Gives Try.prog 86 #[.slice (some ⟨s, 0, none⟩) l.length l.length] w (.bool (l.all farB)) := by
  have HC := hide hc
  clear hc
  (unfold Gives; go_enter Try.func86, Try.ntmps86)
  go_wp2
  go_loopw [7] (fun i wr => ∃ k : Nat, k ≤ l.length ∧ i = .int .i64 k ∧ Up w wr ∧ Hid ((l.take k).all farB = true)) (fun i _ => l.length - (intOf i).toNat)
  case atStart => exact ⟨0, by omega, rfl, Up.refl _, by simp [hide]⟩
  case round =>
    obtain ⟨k, hk, rfl, ⟨p, rfl⟩, ht⟩ := hrel
    by_cases hlt : k < l.length
    · have hkb : decide ((k : Int) < l.length) = true := by simp; omega
      have hcell := HC.out k hlt
      go_wp2_with (go_at_call 99; refine (within_any _ _ _ _).mono ?_; intro _)
      · have hf : farB l[k] = false := by simpa [farB] using (by assumption : (!withinB l[k] (-268435456) 268435456) = true)
        go_ret
        refine ⟨ret_bool ?_, (by repeat (first | with_reducible exact Up.refl _ | with_reducible apply Up.plus | apply Up.ext | apply Up.alloc | apply Up.drew | (refine Up.setCell ?_ (by simp; try omega) _)))⟩
        refine (Bool.eq_false_iff.2 ?_).symm
        intro h
        rw [List.all_eq_true] at h
        rw [h _ (List.getElem_mem hlt)] at hf
        cases hf
      · have hf : farB l[k] = true := by simpa [farB] using (by assumption : (!withinB l[k] (-268435456) 268435456) = false)
        refine ⟨⟨k + 1, by omega, by go_num, (by repeat (first | with_reducible exact Up.refl _ | with_reducible apply Up.plus | apply Up.ext | apply Up.alloc | apply Up.drew | (refine Up.setCell ?_ (by simp; try omega) _))), ?_⟩, by simp [intOf]; omega⟩
        refine hide ?_
        rw [← List.take_append_getElem hlt, List.all_append, ht.out]
        simp [hf]
    · have hkb : decide ((k : Int) < l.length) = false := by simp; omega
      go_wp2
      go_ret
      refine ⟨ret_bool ?_, (by repeat (first | with_reducible exact Up.refl _ | with_reducible apply Up.plus | apply Up.ext | apply Up.alloc | apply Up.drew | (refine Up.setCell ?_ (by simp; try omega) _)))⟩
      have := ht.out
      rw [List.take_of_length_le (by omega)] at this
      exact this.symm

/-- all numbers of a place are in range -/
def farV (p : Int × Int) : Bool := farB p.1 && farB p.2
theorem far2 {s : Nat} (t : TypeId) (x y : Int) (w : World) (hs : s = w.heap.size) :
    Gives Try.prog 86 #[.slice (some ⟨s, 0, none⟩) 2 2] (w.alloc (.cells #[.int .i64 x, .int .i64 y] t)) (.bool (farV (x, y))) := by
  have hb : Box (w.alloc (.cells #[.int .i64 x, .int .i64 y] t)) s #[.int .i64 x, .int .i64 y] t := Box.mk hs.symm
  have h := far_list s [x, y] _ hb.lt (by simp) (fun k hk => by
    have : k = 0 ∨ k = 1 := by simp at hk; omega
    rcases this with rfl | rfl
    · exact hb.cell 0 rfl
    · exact hb.cell 1 rfl)
  simpa [farV] using h
def farA (a b c d : Int) : Bool := farB a && (farB b && (farB c && farB d))
theorem far4 {s : Nat} (t : TypeId) (a b c d : Int) (w : World) (hs : s = w.heap.size) :
    Gives Try.prog 86 #[.slice (some ⟨s, 0, none⟩) 4 4] (w.alloc (.cells #[.int .i64 a, .int .i64 b, .int .i64 c, .int .i64 d] t)) (.bool (farA a b c d)) := by
  have hb : Box (w.alloc (.cells #[.int .i64 a, .int .i64 b, .int .i64 c, .int .i64 d] t)) s #[.int .i64 a, .int .i64 b, .int .i64 c, .int .i64 d] t := Box.mk hs.symm
  have h := far_list s [a, b, c, d] _ hb.lt (by simp) (fun k hk => by
    have : k = 0 ∨ k = 1 ∨ k = 2 ∨ k = 3 := by simp at hk; omega
    rcases this with rfl | rfl | rfl | rfl
    · exact hb.cell 0 rfl
    · exact hb.cell 1 rfl
    · exact hb.cell 2 rfl
    · exact hb.cell 3 rfl)
  simpa [farA] using h

def areaE (a b c d : Int) : Int := if validE a b c d = 0 then (if farA a b c d = true then 0 else 2) else validE a b c d
theorem checkarea_any (a b c d : Int) (w : World) : Gives Try.prog 67 #[.agg #[.int .i64 a, .int .i64 b, .int .i64 c, .int .i64 d]] w (.int .i64 (areaE a b c d)) := by
  (unfold Gives; go_enter Try.func67, Try.ntmps67)
  go_wp2_with (first | (go_at_call 85; refine (valid_any _ _ _ _ _).mono ?_; intro _) | (go_at_call 86; refine (far4 _ _ _ _ _ _ (by simp)).mono ?_; intro _))
  all_goals (go_ret; refine ⟨ret_int ?_, (by repeat (first | with_reducible exact Up.refl _ | with_reducible apply Up.plus | apply Up.ext | apply Up.alloc | apply Up.drew | (refine Up.setCell ?_ (by simp; try omega) _)))⟩)
  all_goals (go_light; first | (simp_all [areaE]; done) | (simp_all [areaE]; omega) | (simp_all [areaE]; repeat' split; all_goals (first | (simp_all; done) | omega | (simp_all; omega))))

def asks2B (x y u v r : Int) : Bool := farV (x, y) && farV (u, v) && withinB r 0 268435456
/-- the sign of the cross product, as the program reckons it -/
def crossV (a b c d : Int) : Int := cmpW ((a.natAbs : Int) * d.natAbs / 18446744073709551616) ((a.natAbs : Int) * d.natAbs % 18446744073709551616) (decide (a < 0) != decide (d < 0)) ((b.natAbs : Int) * c.natAbs / 18446744073709551616) ((b.natAbs : Int) * c.natAbs % 18446744073709551616) (decide (b < 0) != decide (c < 0))
/-- the sign of the dot product, likewise -/
def dotV (a b c d : Int) : Int := cmpW ((a.natAbs : Int) * c.natAbs / 18446744073709551616) ((a.natAbs : Int) * c.natAbs % 18446744073709551616) (decide (a < 0) != decide (c < 0)) ((b.natAbs : Int) * d.natAbs / 18446744073709551616) ((b.natAbs : Int) * d.natAbs % 18446744073709551616) (!(decide (b < 0) != decide (d < 0)))
end Go.Proofs.Ytbcgdhldkanecaa
