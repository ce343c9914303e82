/- Worlds, skies, offers in plain Lean: which are valid, where things are, what is read. No program. -/
import Derived.Test.YtbcgdhldkanecaaSpanA
namespace Go.Proofs.Ytbcgdhldkanecaa
open Go.RowKit

/-- the numbers of blocks, compared -/
@[go_sem] theorem lt_far1 (a p : Nat) : (a < a + 1 + p) = True := eq_true (by omega)
@[go_sem] theorem lt_far2 (a p : Nat) : (a < a + 1 + 1 + p) = True := eq_true (by omega)
@[go_sem] theorem lt_far3 (a p : Nat) : (a < a + 1 + 1 + 1 + p) = True := eq_true (by omega)
@[go_sem] theorem lt_far4 (a p : Nat) : (a < a + 1 + 1 + 1 + 1 + p) = True := eq_true (by omega)
@[go_sem] theorem lt_far5 (a p : Nat) : (a < a + 1 + 1 + 1 + 1 + 1 + p) = True := eq_true (by omega)
@[go_sem] theorem lt_far6 (a p : Nat) : (a < a + 1 + 1 + 1 + 1 + 1 + 1 + p) = True := eq_true (by omega)

structure Bod where
  mu : Int
  radius : Int
  track : List (Int × Int)
/-- bodies; home; stations (number, place); catalogs (number, bias) -/
structure SkyD where
  bodies : List Bod
  home : Int
  stations : List (Int × Int × Int)
  catalogs : List (Int × Int × Int)

def nearV (m : Int) (p : Int × Int) : Bool := withinB p.1 (-m) m && withinB p.2 (-m) m
def bodyE (b : Bod) : Int :=
  if (withinB b.mu 0 1125899906842624 && withinB b.radius 0 1048576) = false then 2
  else if b.track.length = 0 then 6
  else if 4096 < b.track.length then 8
  else if b.track.all (nearV 33554432) = false then 2 else 0
/-- the first error of a list -/
def firstE {α : Type} (f : α → Int) : List α → Int
  | [] => 0
  | x :: l => if f x = 0 then firstE f l else f x
def worldE (bodies : List Bod) (home : Int) : Int :=
  if bodies.length = 0 then 6 else if 8 < bodies.length then 8
  else if firstE bodyE bodies = 0 then (if home < 0 ∨ (bodies.length : Int) ≤ home then 7 else 0) else firstE bodyE bodies
/-- stations, catalogs: ascending numbers from 1 on, places and biases within their limits -/
def stationsE (last : Int) : List (Int × Int × Int) → Int
  | [] => 0
  | (id, x, y) :: l => if id ≤ last then 11 else if nearV 1048576 (x, y) = false then 2 else stationsE id l
def catalogsE (last : Int) : List (Int × Int × Int) → Int
  | [] => 0
  | (v, lo, hi) :: l => if v ≤ last then 11 else if lo < -500000 ∨ hi < lo ∨ 500000 < hi then 2 else catalogsE v l
def skyE (s : SkyD) : Int :=
  if worldE s.bodies s.home = 0 then
    (if 16 < s.stations.length then 8
     else if stationsE 0 s.stations = 0 then (if 8 < s.catalogs.length then 8 else catalogsE 0 s.catalogs)
     else stationsE 0 s.stations)
  else worldE s.bodies s.home
/-- the number of the first with this number; -1 -/
def findI (l : List (Int × Int × Int)) (id : Int) : Int := match l.findIdx? (fun x => x.1 == id) with
  | some i => i
  | none => -1
def placeV (b : Bod) (tick : Int) : Int × Int := b.track.getD (tick % (b.track.length : Int)).toNat (0, 0)
def atV (s : SkyD) (body tick : Int) : Int × Int :=
  if worldE s.bodies s.home = 0 ∧ 0 ≤ body ∧ body < s.bodies.length ∧ withinB tick 0 1073741824 = true then
    match s.bodies[body.toNat]? with
    | some b => placeV b tick
    | none => (0, 0)
  else (0, 0)
def whereV (s : SkyD) (id tick : Int) : Int × Int × Bool :=
  if skyE s = 0 ∧ withinB tick 0 1073741824 = true then
    match s.stations.find? (fun x => x.1 == id), s.bodies[s.home.toNat]? with
    | some x, some b => ((placeV b tick).1 + x.2.1, (placeV b tick).2 + x.2.2, true)
    | _, _ => (0, 0, false)
  else (0, 0, false)
end Go.Proofs.Ytbcgdhldkanecaa
