/- What moves a body, in plain Lean: pulls, light, heat, gas, energies, which body rules. No program. -/
import Derived.Test.YtbcgdhldkanecaaSkyP
import Derived.Test.YtbcgdhldkanecaaSpanE
import Derived.Test.YtbcgdhldkanecaaRootW
import Derived.Test.YtbcgdhldkanecaaPlaneA
namespace Go.Proofs.Ytbcgdhldkanecaa
open Go.RowKit

abbrev Sp := Int × Int
abbrev Ar := Int × Int × Int × Int
def addP (a b : Sp) : Sp := ((addS a.1 a.2 b.1 b.2).1, (addS a.1 a.2 b.1 b.2).2.1)
def subP (a b : Sp) : Sp := ((subS a.1 a.2 b.1 b.2).1, (subS a.1 a.2 b.1 b.2).2.1)
def mulP (a b : Sp) : Sp := ((mulS a.1 a.2 b.1 b.2).1, (mulS a.1 a.2 b.1 b.2).2.1)
def quotP (a b : Sp) : Sp := ((quotS a.1 a.2 b.1 b.2).1, (quotS a.1 a.2 b.1 b.2).2.1)
def squareP (a : Sp) : Sp := ((squareS a.1 a.2).1, (squareS a.1 a.2).2.1)
def rootsP (a : Sp) : Sp := ((rootsS a.1 a.2).1, (rootsS a.1 a.2).2.1)
def arX (a : Ar) : Sp := (a.1, a.2.1)
def arY (a : Ar) : Sp := (a.2.2.1, a.2.2.2)
def mkA (x y : Sp) : Ar := (x.1, x.2, y.1, y.2)

def boundedE (a b lo hi : Int) : Int := if b < a then 11 else if a < lo ∨ hi < b then 2 else 0
def driftE (l h : Sp) (g : Int) : Int :=
  if boundedE l.1 l.2 0 1000 = 0 then (if boundedE h.1 h.2 (-1000) 1000 = 0 then (if withinB g 0 1000 = true then 0 else 2) else boundedE h.1 h.2 (-1000) 1000) else boundedE l.1 l.2 0 1000
def limB (a b : Int) : Bool := decide (-33554432 ≤ a ∧ b ≤ 33554432)
/-- the error of a question -/
def askedE (bs : List Bod) (home : Int) (l h : Sp) (g tick : Int) (a : Ar) : Int :=
  if worldE bs home = 0 then
    (if driftE l h g = 0 then
      (if withinB tick 0 1073741824 = true then
        (if areaE a.1 a.2.1 a.2.2.1 a.2.2.2 = 0 then (if limB a.1 a.2.1 = true ∧ limB a.2.2.1 a.2.2.2 = true then 0 else 2) else areaE a.1 a.2.1 a.2.2.1 a.2.2.2)
      else 2)
    else driftE l h g)
  else worldE bs home
def edgeV (r : Int) : Int := max 1 (r * r)
/-- the vectors from an area to a place -/
def toP (p : Sp) (a : Ar) : Ar := mkA (subP (p.1, p.1) (arX a)) (subP (p.2, p.2) (arY a))
/-- squared distances; distances -/
def sqP (r : Int) (v : Ar) : Sp := (max (addP (squareP (arX v)) (squareP (arY v))).1 (edgeV r), max (addP (squareP (arX v)) (squareP (arY v))).2 (edgeV r))
def distP (r : Int) (v : Ar) : Sp := rootsP (sqP r v)
def mdP (mu n d : Int) : Sp := if (mulDivE mu n d).2.2 = 0 then ((mulDivE mu n d).1, (mulDivE mu n d).2.1) else if n < 0 then (-1152921504606846976, -1152921504606846976) else (1152921504606846976, 1152921504606846976)
def hullP (a b : Sp) : Sp := (min a.1 b.1, max a.2 b.2)
def scaledP (mu : Int) (x q : Sp) : Sp := hullP (hullP (hullP (mdP mu x.1 q.1) (mdP mu x.2 q.1)) (mdP mu x.1 q.2)) (mdP mu x.2 q.2)
def clampP (s : Sp) : Sp := (min (max s.1 (-1048576)) 1048576, min (max s.2 (-1048576)) 1048576)
def towardP (mu : Int) (x q r : Sp) : Sp := clampP (quotP (scaledP mu x q) r)
/-- the pull of a body in a place on an area -/
def pullP (mu r : Int) (p : Sp) (a : Ar) : Ar :=
  mkA (towardP mu (arX (toP p a)) (sqP r (toP p a)) (distP r (toP p a))) (towardP mu (arY (toP p a)) (sqP r (toP p a)) (distP r (toP p a)))
def pullB (tick : Int) (a : Ar) (b : Bod) : Ar := pullP b.mu b.radius (placeV b tick) a
def partP (a b : Sp) : Sp := quotP (mulP a b) (1000, 1000)
def minusP (s : Sp) : Sp := (-s.2, -s.1)
def lightP (l : Sp) (p : Ar) : Ar := mkA (minusP (partP l (arX p))) (minusP (partP l (arY p)))
def heatP (h : Sp) (p : Ar) : Ar := mkA (minusP (partP h (arY p))) (partP h (arX p))
def sumP (a b : Ar) : Ar := mkA (addP (arX a) (arX b)) (addP (arY a) (arY b))
def gasP (g : Int) : Ar := (-g, g, -g, g)
/-- the reference's sum: gas, light, heat, then all pulls -/
def overR (bs : List Bod) (l h : Sp) (g tick : Int) (a : Ar) : Ar :=
  (bs.map (pullB tick a)).foldl sumP (sumP (sumP (gasP g) (lightP l ((bs.map (pullB tick a)).headD (0, 0, 0, 0)))) (heatP h ((bs.map (pullB tick a)).headD (0, 0, 0, 0))))
/-- the program's sum of areas, from zero -/
def sum0 (l : List Ar) : Ar := l.foldl sumP (0, 0, 0, 0)
def overQ (l h : Sp) : List Ar → Ar → Ar
  | [], out => out
  | p :: ps, out => (ps.foldl (fun o p => sum0 [o, p]) (sum0 [sum0 [out, p], lightP l p, heatP h p]))
def strengthP (p : Ar) : Sp := addP (squareP (arX p)) (squareP (arY p))
/-- the number of the first whose least is beyond all others' greatest; -1: none -/
def rulesAt (l : List Sp) (i : Nat) : Bool := (List.range l.length).all fun k => k == i || decide ((l.getD k (0, 0)).2 < (l.getD i (0, 0)).1)
def rulerP (l : List Sp) : Int × Bool := match (List.range l.length).find? (rulesAt l) with
  | some i => (i, true)
  | none => (0, false)
def energyP (bs : List Bod) (tick : Int) (a : Ar) (n : Int) : Sp :=
  bs.foldl (fun o b => subP o (addP (quotP (b.mu, b.mu) (distP b.radius (toP (placeV b tick) a))) (quotP (b.mu, b.mu) (distP b.radius (toP (placeV b tick) a))))) (n, n)

/-! ### plain facts -/
theorem addP_of {a b : Sp} (h1 : checkE a.1 a.2 = 0) (h2 : checkE b.1 b.2 = 0) (h3 : -1152921504606846976 ≤ a.1 + b.1) (h4 : a.2 + b.2 ≤ 1152921504606846976) : addP a b = (a.1 + b.1, a.2 + b.2) := by
  obtain ⟨a0, a1, a2⟩ := check_zero h1
  obtain ⟨b0, b1, b2⟩ := check_zero h2
  unfold addP addS
  rw [if_pos (by unfold validE; rw [if_pos h1]; exact h2)]
  unfold endsS
  rw [if_pos ⟨(fits_iff _).2 (by omega), (fits_iff _).2 (by omega)⟩]
theorem addP_zero {s : Sp} (h : checkE s.1 s.2 = 0) : addP (0, 0) s = s := by
  obtain ⟨a0, a1, a2⟩ := check_zero h
  rw [addP_of (check_ok (by omega) (by omega) (by omega)) h (by simp; omega) (by simp; omega)]
  simp
theorem ends_check (lo hi : Int) (h : lo ≤ hi) : checkE (endsS lo hi).1 (endsS lo hi).2.1 = 0 := by
  unfold endsS
  split
  · rename_i hf
    exact check_ok ((fits_iff _).1 hf.1).1 h ((fits_iff _).1 hf.2).2
  · show checkE 0 0 = 0; decide
theorem sq_mono {a b : Int} (h0 : 0 ≤ a) (h1 : a ≤ b) : a * a ≤ b * b := Int.mul_le_mul h1 h1 h0 (by omega)
theorem squareP_check (s : Sp) : checkE (squareP s).1 (squareP s).2 = 0 := by
  unfold squareP squareS
  split
  · rename_i h
    obtain ⟨a0, a1, a2⟩ := check_zero h
    split
    · show checkE 0 0 = 0; decide
    · exact ends_check _ _ (sq_mono (by omega) (by omega))
  · show checkE 0 0 = 0; decide
theorem subP_of {a b : Sp} (h1 : checkE a.1 a.2 = 0) (h2 : checkE b.1 b.2 = 0) (h3 : -1152921504606846976 ≤ a.1 - b.2) (h4 : a.2 - b.1 ≤ 1152921504606846976) : subP a b = (a.1 - b.2, a.2 - b.1) := by
  obtain ⟨a0, a1, a2⟩ := check_zero h1
  obtain ⟨b0, b1, b2⟩ := check_zero h2
  unfold subP subS
  rw [if_pos (by unfold validE; rw [if_pos h1]; exact h2)]
  unfold endsS
  rw [if_pos ⟨(fits_iff _).2 (by omega), (fits_iff _).2 (by omega)⟩]
end Go.Proofs.Ytbcgdhldkanecaa
