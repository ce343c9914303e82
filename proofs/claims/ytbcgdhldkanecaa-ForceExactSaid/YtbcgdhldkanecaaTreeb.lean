/- A region that draws its order: three operations that may come up. No conditions. -/
import Derived.Test.YtbcgdhldkanecaaTree
namespace Go.Proofs.Ytbcgdhldkanecaa
open Go.RowKit

theorem anyL_three {P : Program} {ops : Array Oper} {Q : Exit → Act → World → Prop} {S : World → Prop} {z : Nat} {listed : Array Bool} {i j k m : Nat} {o o' o'' : Oper} {a : Act} {w : World} (hr : decide (Region.ready .any ops listed = [i, j, k]) = true) (ho : ops[i]? = some o) (ho' : ops[j]? = some o') (ho'' : ops[k]? = some o'')
    (h : ∀ K : Act → World → Prop, Hid (∀ a' w', (i ≠ z → S w') → anyL P ops Q S z m (listed.setIfInBounds i true) a' w' → K a' w') → wpList P ops (Exit.then K Q) [o] a w)
    (h' : ∀ K : Act → World → Prop, Hid (∀ a' w', (j ≠ z → S w') → anyL P ops Q S z m (listed.setIfInBounds j true) a' w' → K a' w') → wpList P ops (Exit.then K Q) [o'] a w)
    (h'' : ∀ K : Act → World → Prop, Hid (∀ a' w', (k ≠ z → S w') → anyL P ops Q S z m (listed.setIfInBounds k true) a' w' → K a' w') → wpList P ops (Exit.then K Q) [o''] a w) : anyL P ops Q S z (m + 1) listed a w := by
  have hr := of_decide_eq_true hr
  refine ⟨fun h1 => (by rw [hr] at h1; cases h1), fun n hn => ?_⟩
  rw [hr] at hn
  unfold wpOp
  rcases List.mem_cons.1 hn with rfl | hn
  · simp only [ho]
    exact h (fun a' w' => (n ≠ z → S w') ∧ anyL P ops Q S z m (listed.setIfInBounds n true) a' w') (hide fun _ _ h h' => ⟨h, h'⟩)
  · rcases List.mem_cons.1 hn with rfl | hn
    · simp only [ho']
      exact h' (fun a' w' => (n ≠ z → S w') ∧ anyL P ops Q S z m (listed.setIfInBounds n true) a' w') (hide fun _ _ h h' => ⟨h, h'⟩)
    · obtain rfl : n = k := by simpa using hn
      simp only [ho'']
      exact h'' (fun a' w' => (n ≠ z → S w') ∧ anyL P ops Q S z m (listed.setIfInBounds n true) a' w') (hide fun _ _ h h' => ⟨h, h'⟩)
end Go.Proofs.Ytbcgdhldkanecaa
