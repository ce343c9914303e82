/- The law's size of a pull. Conditions: the pull is small. -/
import Derived.Test.YtbcgdhldkanecaaEnerQ
import Derived.Test.YtbcgdhldkanecaaSpanE
namespace Go.Proofs.Ytbcgdhldkanecaa
open Go.RowKit

set_option maxRecDepth 100000 in
set_option maxHeartbeats 4000000 in
/-- an end of the span of squared sizes -/
theorem fsize_any {p : Ar} (hp : OrdA 1048576 p) (m : Bool) (w : World) : Gives Try.prog 38 #[.agg #[.int .i64 p.1, .int .i64 p.2.1, .int .i64 p.2.2.1, .int .i64 p.2.2.2], .bool m] w (.int .i64 (if m = true then (sizeP p).2 else (sizeP p).1)) := by
  obtain ⟨q1, ⟨q2, q3⟩, q4⟩ := squareP_val (x := arX p) (hp.1.mono (by omega))
  obtain ⟨r1, ⟨r2, r3⟩, r4⟩ := squareP_val (x := arY p) (hp.2.mono (by omega))
  have S1 := hide (fun W => square_any p.1 p.2.1 W)
  have S2 := hide (fun W => square_any p.2.2.1 p.2.2.2 W)
  have HS := hide (show sizeP p = ((squareS p.1 p.2.1).1 + (squareS p.2.2.1 p.2.2.2).1, (squareS p.1 p.2.1).2.1 + (squareS p.2.2.1 p.2.2.2).2.1) from rfl)
  have k1 : 0 ≤ (squareS p.1 p.2.1).1 ∧ (squareS p.1 p.2.1).1 ≤ (squareS p.1 p.2.1).2.1 ∧ (squareS p.1 p.2.1).2.1 ≤ 4503599627370496 := by
    have e : squareP (arX p) = ((squareS p.1 p.2.1).1, (squareS p.1 p.2.1).2.1) := rfl
    rw [e] at q1
    have h1 := congrArg Prod.fst q1
    have h2 := congrArg Prod.snd q1
    simp only at h1 h2
    omega
  have k2 : 0 ≤ (squareS p.2.2.1 p.2.2.2).1 ∧ (squareS p.2.2.1 p.2.2.2).1 ≤ (squareS p.2.2.1 p.2.2.2).2.1 ∧ (squareS p.2.2.1 p.2.2.2).2.1 ≤ 4503599627370496 := by
    have e : squareP (arY p) = ((squareS p.2.2.1 p.2.2.2).1, (squareS p.2.2.1 p.2.2.2).2.1) := rfl
    rw [e] at r1
    have h1 := congrArg Prod.fst r1
    have h2 := congrArg Prod.snd r1
    simp only at h1 h2
    omega
  clear q1 q2 q3 q4 r1 r2 r3 r4
  obtain ⟨p1, p2, p3, p4⟩ := p
  dsimp only at *
  generalize squareS p1 p2 = A at *
  generalize squareS p3 p4 = C at *
  obtain ⟨A1, A2, A3⟩ := A
  obtain ⟨C1, C2, C3⟩ := C
  dsimp only at *
  generalize sizeP (p1, p2, p3, p4) = sz at *
  have hsz := HS.out
  subst hsz
  clear HS hp
  cases m
  all_goals (
    (unfold Gives; go_enter Try.func38, Try.ntmps38)
    go_wp2_with fail
    go_at_call 63
    refine (S1.out _).mono ?_
    intro pa
    go_wp2_with fail
    go_at_call 63
    refine (S2.out _).mono ?_
    intro pb
    go_wp2
    (refine bodyPost_give (by repeat (first | with_reducible exact Up.refl _ | with_reducible apply Up.plus | apply Up.ext | apply Up.alloc | apply Up.drew | (refine Up.setCell ?_ (by simp; try omega) _))) rfl ⟨_, (by simp [results, Try.results38, go_sem]; rfl), ?_⟩)
    rfl)
end Go.Proofs.Ytbcgdhldkanecaa
