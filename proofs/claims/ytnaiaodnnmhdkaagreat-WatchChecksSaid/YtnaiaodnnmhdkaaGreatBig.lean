/- Whether a world is greater than the statements cover: some answer, nothing changed. Conditions: what lies in memory. -/
import Derived.Test.YtnaiaodnnmhdkaaGreatSkyI
import Derived.Test.YtnaiaodnnmhdkaaGreatSkyB
import Derived.Test.YtnaiaodnnmhdkaaGreatStore
namespace Go.Proofs.YtnaiaodnnmhdkaaGreat
set_option linter.unusedVariables false
set_option linter.unusedSimpArgs false
open Go.RowKit

/-- some answer -/
def AnyB (w : World) (e : Ending) (W' : World) : Prop := ∃ (b : Bool) (p : Ext), e = .returned (.bool b) ∧ W' = ext w p
set_option maxRecDepth 100000 in
set_option maxHeartbeats 2000000 in
theorem bigworld_any {K : Nat → Prop} {w : World} {a : Option Addr} {n c : Nat} {bs : List Bod} {home : Int} (hl : Bods K w (.slice a n c) bs) :
    Calls Tryz.prog 57 #[.agg #[.slice a n c, .int .i64 home]] w (AnyB w) := by
  have hm := (Bods.at hl).2.1
  have HL := hide hl
  clear hl
  go_enter Tryz.func57, Tryz.ntmps57
  by_cases h10 : 10 < n
  · have hb : decide ((10 : Int) < n) = true := by simp; omega
    go_wp2
    obtain ⟨p, hp⟩ : Up w (w.alloc (.cells #[.slice a n c, .int .i64 home] 24)) := (by repeat (first | with_reducible exact Up.refl _ | with_reducible apply Up.plus | apply Up.ext | apply Up.alloc | apply Up.drew | (refine Up.setCell ?_ (by simp; try omega) _)))
    exact bodyPost_ret (v := .bool true) (by simp [results, Tryz.results57, go_sem]) rfl ⟨true, p, rfl, hp⟩
  · have hb : decide ((10 : Int) < n) = false := by simp; omega
    go_wp2_with fail
    go_loopw [3] (fun s wr => ∃ k : Nat, s = .int .i64 k ∧ k ≤ n ∧ Hid (Up w wr ∧ Box wr w.heap.size #[.slice a n c, .int .i64 home] 24)) (fun s _ => n - (intOf s).toNat)
    case atStart => exact ⟨0, by go_num, by omega, hide ⟨(by repeat (first | with_reducible exact Up.refl _ | with_reducible apply Up.plus | apply Up.ext | apply Up.alloc | apply Up.drew | (refine Up.setCell ?_ (by simp; try omega) _))), Box.mk rfl⟩⟩
    case round =>
      obtain ⟨k, rfl, hk, hS⟩ := hrel
      have c0 := hS.out.2.cell 0 rfl
      have lb := hS.out.2.lt
      by_cases hlt : k < n
      · have hkb : decide ((k : Int) < n) = true := by simp; omega
        have hkn : decide (k < n) = true := by simp; omega
        obtain ⟨bb, bo, b, ta, tn, tc, rfl, _, hbl, _, _, d0, d1, d2, _⟩ := (Bods.at (HL.out.keeps (hS.out.1.keeps K))).2.2 k hlt
        go_wp2
        all_goals first
          | (go_roundw
             case rel => exact ⟨k + 1, by go_num, by omega, hS⟩
             case measure => simp [intOf]; omega)
          | (obtain ⟨p, hp⟩ := hS.out.1
             exact bodyPost_ret (v := .bool true) (by simp [results, Tryz.results57, go_sem]) rfl ⟨true, p, rfl, hp⟩)
      · have hkb : decide ((k : Int) < n) = false := by simp; omega
        have hkn : decide (k < n) = false := by simp; omega
        go_wp2
        obtain ⟨p, hp⟩ := hS.out.1
        exact bodyPost_ret (v := .bool false) (by simp [results, Tryz.results57, go_sem]) rfl ⟨false, p, rfl, hp⟩
end Go.Proofs.YtnaiaodnnmhdkaaGreat
