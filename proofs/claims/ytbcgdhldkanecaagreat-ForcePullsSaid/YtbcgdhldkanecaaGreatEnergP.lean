/- Energies in plain Lean: sums without rounding, order in the number and in each mass. No program. -/
import Derived.Test.YtbcgdhldkanecaaGreatEnergy
namespace Go.Proofs.YtbcgdhldkanecaaGreat
set_option linter.unusedVariables false
set_option linter.unusedSimpArgs false
open Go.RowKit

def sumI (l : List Int) : Int := l.foldr (fun x s => x + s) 0
def stepE (t : Int) (a : Ar) (o : Sp) (b : Bod) : Sp := subP o (addP (takeP t a b) (takeP t a b))
theorem stepE_val {t : Int} {a : Ar} {o : Sp} {b : Bod} {m : Int} (ho : Ord m o) (m0 : 0 ≤ m) (m1 : m ≤ 1000000000000000000) (hx : Ord 1125899906842624 (takeP t a b)) :
    stepE t a o b = (o.1 - 2 * (takeP t a b).2, o.2 - 2 * (takeP t a b).1) ∧ Ord (m + 2251799813685248) (stepE t a o b) := by
  unfold stepE
  generalize takeP t a b = X at *
  obtain ⟨x0, x1, x2⟩ := hx
  obtain ⟨o0, o1, o2⟩ := ho
  have e1 : addP X X = (X.1 + X.1, X.2 + X.2) := addP_of (check_ok (by omega) x1 (by omega)) (check_ok (by omega) x1 (by omega)) (by omega) (by omega)
  have e2 : subP o (X.1 + X.1, X.2 + X.2) = (o.1 - (X.2 + X.2), o.2 - (X.1 + X.1)) := subP_of (check_ok (by omega) o1 (by omega)) (check_ok (by simp only; omega) (by simp only; omega) (by simp only; omega)) (by simp only; omega) (by simp only; omega)
  rw [e1, e2]
  refine ⟨?_, ?_, ?_, ?_⟩
  · apply Prod.ext <;> simp only <;> omega
  · simp only; omega
  · simp only; omega
  · simp only; omega
theorem energy_fold {t : Int} {a : Ar} : ∀ (bs : List Bod) (o : Sp) (m : Int), Ord m o → 0 ≤ m → m + 2251799813685248 * bs.length ≤ 1000000000000000000 → (∀ b ∈ bs, Ord 1125899906842624 (takeP t a b)) →
    bs.foldl (stepE t a) o = (o.1 - 2 * sumI (bs.map fun b => (takeP t a b).2), o.2 - 2 * sumI (bs.map fun b => (takeP t a b).1))
  | [], o, _, _, _, _, _ => by apply Prod.ext <;> simp [sumI]
  | b :: bs, o, m, ho, m0, hm, hx => by
    obtain ⟨h1, h2⟩ := List.forall_mem_cons.1 hx
    simp only [List.length_cons] at hm
    obtain ⟨e1, e2⟩ := stepE_val ho m0 (by omega) h1
    rw [List.foldl_cons, energy_fold bs _ _ e2 (by omega) (by omega) h2, e1]
    simp only [List.map_cons, sumI, List.foldr_cons]
    apply Prod.ext <;> simp only <;> omega
theorem energy_val {t : Int} {a : Ar} {bs : List Bod} {n : Int} (n0 : 0 ≤ n) (n1 : n ≤ 10000000000000) (hl : bs.length ≤ 8) (hx : ∀ b ∈ bs, Ord 1125899906842624 (takeP t a b)) :
    energyP bs t a n = (n - 2 * sumI (bs.map fun b => (takeP t a b).2), n - 2 * sumI (bs.map fun b => (takeP t a b).1)) :=
  energy_fold bs (n, n) 10000000000000 ⟨by simp only; omega, by simp only; omega, by simp only; omega⟩ (by omega) (by omega) hx
theorem sumI_mono : ∀ (l l' : List Int), l.length = l'.length → (∀ (i : Nat) (x y : Int), l[i]? = some x → l'[i]? = some y → x ≤ y) → sumI l ≤ sumI l'
  | [], [], _, _ => Int.le_refl _
  | x :: l, y :: l', hl, h => by
    have h0 := h 0 x y rfl rfl
    have h1 := sumI_mono l l' (by simpa using hl) fun i u v hu hv => h (i + 1) u v (by simpa using hu) (by simpa using hv)
    simp only [sumI, List.foldr_cons] at *
    omega
  | [], y :: l', hl, _ => by simp at hl
  | x :: l, [], hl, _ => by simp at hl
end Go.Proofs.YtbcgdhldkanecaaGreat
