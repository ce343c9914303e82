/- Whether a world is greater than the statements cover; if it is not, it has few bodies and no long tracks. Conditions: what lies in memory. -/
import Derived.Test.YtbcgdhldkanecaaGreatSkyI
import Derived.Test.YtbcgdhldkanecaaGreatSkyR
import Derived.Test.YtbcgdhldkanecaaGreatFloat
namespace Go.Proofs.YtbcgdhldkanecaaGreat
set_option linter.unusedVariables false
set_option linter.unusedSimpArgs false
open Go.RowKit

/-- some answer -/
def SmallW (bs : List Bod) (w : World) (e : Ending) (W' : World) : Prop := ∃ (b : Bool) (p : Ext), e = .returned (.bool b) ∧ W' = ext w p ∧ (b = false → bs.length ≤ 10 ∧ ∀ x ∈ bs, x.track.length ≤ 4097)
set_option maxRecDepth 100000 in
set_option maxHeartbeats 2000000 in
theorem bigworld_small {K : Nat → Prop} {w : World} {a : Option Addr} {n c : Nat} {bs : List Bod} {home : Int} (hl : Bods K w (.slice a n c) bs) :
    Calls Tryz.prog 7 #[.agg #[.slice a n c, .int .i64 home]] w (SmallW bs w) := by
  have hm := (Bods.at hl).2.1
  have HN := hide (Bods.at hl).1
  have HL := hide hl
  clear hl
  go_enter Tryz.func7, Tryz.ntmps7
  by_cases h10 : 10 < n
  · have hb : decide ((10 : Int) < n) = true := by simp; omega
    go_wp2
    obtain ⟨p, hp⟩ : Up w (w.alloc (.cells #[.slice a n c, .int .i64 home] 24)) := (by repeat (first | with_reducible exact Up.refl _ | with_reducible apply Up.plus | apply Up.ext | apply Up.alloc | apply Up.drew | (refine Up.setCell ?_ (by simp; try omega) _)))
    exact bodyPost_ret (v := .bool true) (by simp [results, Tryz.results7, go_sem]) rfl ⟨true, p, rfl, hp, fun h => by cases h⟩
  · have hb : decide ((10 : Int) < n) = false := by simp; omega
    go_wp2_with fail
    go_loopw [3] (fun s wr => ∃ k : Nat, s = .int .i64 k ∧ k ≤ n ∧ Hid ((Up w wr ∧ Box wr w.heap.size #[.slice a n c, .int .i64 home] 24) ∧ ∀ j, j < k → ∀ x, bs[j]? = some x → x.track.length ≤ 4097)) (fun s _ => n - (intOf s).toNat)
    case atStart => exact ⟨0, by go_num, by omega, hide ⟨⟨(by repeat (first | with_reducible exact Up.refl _ | with_reducible apply Up.plus | apply Up.ext | apply Up.alloc | apply Up.drew | (refine Up.setCell ?_ (by simp; try omega) _))), Box.mk rfl⟩, fun j hj => by omega⟩⟩
    case round =>
      obtain ⟨k, rfl, hk, hS⟩ := hrel
      have c0 := hS.out.1.2.cell 0 rfl
      have lb := hS.out.1.2.lt
      by_cases hlt : k < n
      · have hkb : decide ((k : Int) < n) = true := by simp; omega
        have hkn : decide (k < n) = true := by simp; omega
        obtain ⟨bb, bo, b, ta, tn, tc, rfl, _, hbl, hbk, _, d0, d1, d2, hT⟩ := (Bods.at (HL.out.keeps (hS.out.1.1.keeps K))).2.2 k hlt
        have htn := (Vecs.at hT).1
        have HB := hide (And.intro hbk htn)
        clear hbk hT htn
        go_wp2
        all_goals first
          | (go_roundw
             case rel => exact ⟨k + 1, by go_num, by omega, hide ⟨hS.out.1, fun j hj x hx => by
               rcases Nat.lt_or_ge j k with h | h
               · exact hS.out.2 j h x hx
               · obtain rfl : j = k := by omega
                 rw [HB.out.1] at hx
                 cases hx
                 have := HB.out.2
                 simp at *
                 omega⟩⟩
             case measure => simp [intOf]; omega)
          | (obtain ⟨p, hp⟩ := hS.out.1.1
             exact bodyPost_ret (v := .bool true) (by simp [results, Tryz.results7, go_sem]) rfl ⟨true, p, rfl, hp, fun h => by cases h⟩)
      · have hkb : decide ((k : Int) < n) = false := by simp; omega
        have hkn : decide (k < n) = false := by simp; omega
        go_wp2
        obtain ⟨p, hp⟩ := hS.out.1.1
        exact bodyPost_ret (v := .bool false) (by simp [results, Tryz.results7, go_sem]) rfl ⟨false, p, rfl, hp, fun _ => ⟨by rw [← HN.out]; omega, fun x hx => by
          obtain ⟨j, hj, rfl⟩ := List.getElem_of_mem hx
          exact hS.out.2 j (by have := HN.out; omega) _ (List.getElem?_eq_getElem hj)⟩⟩
end Go.Proofs.YtbcgdhldkanecaaGreat
