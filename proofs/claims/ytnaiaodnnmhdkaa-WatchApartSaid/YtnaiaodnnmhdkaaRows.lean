/-
  No cell of these rows narrows 'for every input' (looked for: loops, veiled, ifaces, maps, wideKeys, modest, calm, conditions, laid).
  DERIVED. THE GIVEN ROWS OF THIS SEAT. 3 by the template 'for every input the law returns true; each argument reads behind the call as it read before'; 0 by the template 'total and deterministic' (their statements: YtnaiaodnnmhdkaaTotals.lean).
  GIVEN WITH THE SEED: the statements are not yours to turn. If you find one false, say at which input.
  Laid BY PROGRAM, IN A SANDBOX (cutbox-rows.mjs): the forced cells as the released guide's own fill.sh prints them over the translation 8c35b53ac733d349… (all of the seat's roots in one cut). By AI agents, Wed Nov 11 2026. No macro, syntax, notation, axiom, sorry.
-/
import Derived.Test.YtnaiaodnnmhdkaaChecked
import GoSem.Claim
import GoSem.ClaimJoined
import GoSem.ClaimMapViews
import Derived.JoinedTies
import Derived.KernelRfl
namespace Go.Proofs.Ytnaiaodnnmhdkaa
/- THE CELL 'sum', in the pinned program and in every row, IS THE sha256 OF THE DUMP (.gsa) THAT YtnaiaodnnmhdkaaProg.lean LOADS. Nothing in Lean hashes anything: it is a label: what it is worth is what the hold of that sum in a sandbox is worth. -/
noncomputable def Try.pinned : Pinned := { name := "ytnaiaodnnmhdkaa", sum := "8c35b53ac733d34946bded942b9dbac324fc59aa89928b5d7a9842fd3ae19d86", checked := Try.checked }
namespace Rows
def none {H : Type} : Left H := { results := [], args := [] }

/-- 'bolidelaw06.WatchPlaces': WHATEVER THE INPUT: true; the input reads as it did. -/
def watchPlacesSpec : ChangeSpec := { name := "watchPlaces", fn := fun _ => fun
  | [d1, d2, d3, d4, d5, d6, d7] => { results := [.lit (.bool true)], args := [d1, d2, d3, d4, d5, d6, d7] }
  | _ => none }
def watchPlacesRow : OpenClaim := { program := "ytnaiaodnnmhdkaa", sum := "8c35b53ac733d34946bded942b9dbac324fc59aa89928b5d7a9842fd3ae19d86", func := "bolide/bolidelaw06.WatchPlaces", spec := "watchPlaces", unfollowed := true, recurses := true, apart := false }
def WatchPlacesSaid : Prop := watchPlacesRow.holds Try.pinned (OpenSpec.ofChange watchPlacesSpec)

/-- ITS FALSE NEIGHBOUR: 'it returns false'. Refute it at one input. -/
def watchPlacesWrong : ChangeSpec := { name := "watchPlaces", fn := fun _ => fun
  | [d1, d2, d3, d4, d5, d6, d7] => { results := [.lit (.bool false)], args := [d1, d2, d3, d4, d5, d6, d7] }
  | _ => none }
def WatchPlacesWrongFalsely : Prop := watchPlacesRow.holds Try.pinned (OpenSpec.ofChange watchPlacesWrong)

/-- 'bolidelaw06.WatchReads': WHATEVER THE INPUT: true; the input reads as it did. -/
def watchReadsSpec : ChangeSpec := { name := "watchReads", fn := fun _ => fun
  | [d1, d2, d3, d4] => { results := [.lit (.bool true)], args := [d1, d2, d3, d4] }
  | _ => none }
def watchReadsRow : OpenClaim := { program := "ytnaiaodnnmhdkaa", sum := "8c35b53ac733d34946bded942b9dbac324fc59aa89928b5d7a9842fd3ae19d86", func := "bolide/bolidelaw06.WatchReads", spec := "watchReads", unfollowed := true, recurses := true, apart := false }
def WatchReadsSaid : Prop := watchReadsRow.holds Try.pinned (OpenSpec.ofChange watchReadsSpec)

/-- ITS FALSE NEIGHBOUR: 'it returns false'. Refute it at one input. -/
def watchReadsWrong : ChangeSpec := { name := "watchReads", fn := fun _ => fun
  | [d1, d2, d3, d4] => { results := [.lit (.bool false)], args := [d1, d2, d3, d4] }
  | _ => none }
def WatchReadsWrongFalsely : Prop := watchReadsRow.holds Try.pinned (OpenSpec.ofChange watchReadsWrong)

/-- 'bolidelaw06.WatchApart': WHATEVER THE INPUT: true; the input reads as it did. -/
def watchApartSpec : ChangeSpec := { name := "watchApart", fn := fun _ => fun
  | [d1, d2, d3, d4, d5, d6] => { results := [.lit (.bool true)], args := [d1, d2, d3, d4, d5, d6] }
  | _ => none }
def watchApartRow : OpenClaim := { program := "ytnaiaodnnmhdkaa", sum := "8c35b53ac733d34946bded942b9dbac324fc59aa89928b5d7a9842fd3ae19d86", func := "bolide/bolidelaw06.WatchApart", spec := "watchApart", unfollowed := true, recurses := true, apart := false }
def WatchApartSaid : Prop := watchApartRow.holds Try.pinned (OpenSpec.ofChange watchApartSpec)

/-- ITS FALSE NEIGHBOUR: 'it returns false'. Refute it at one input. -/
def watchApartWrong : ChangeSpec := { name := "watchApart", fn := fun _ => fun
  | [d1, d2, d3, d4, d5, d6] => { results := [.lit (.bool false)], args := [d1, d2, d3, d4, d5, d6] }
  | _ => none }
def WatchApartWrongFalsely : Prop := watchApartRow.holds Try.pinned (OpenSpec.ofChange watchApartWrong)

/- THE SECOND FORM. 'bulk': how many values and letters a reading holds, each counted each time it is reached (what is shared counts as often as it is met; a slice's spare places count too). A statement '..UptoSaid' is the law's where the arguments, and the package variables that the reading takes, are together of bulk at most 1048576: NARROWER than '..Said'. Prove '..Said' where nothing that the law and all that it calls make is longer than what came in: it says more and counts as full. Else prove '..UptoSaid'. A law counts once. -/
mutual
def uptoBulk {H : Type} : DataW H → Nat
  | .lit (.string bytes) => bytes.length + 1
  | .lit _ => 1
  | .nil => 1
  | .ptr d => uptoBulk d + 1
  | .slice elems spare => uptoBulkAll elems + uptoBulkAll spare + 1
  | .agg parts => uptoBulkAll parts + 1
  | .iface _ d => uptoBulk d + 1
  | .map entries => uptoBulkEntries entries + 1
  | .held _ => 1
def uptoBulkAll {H : Type} : List (DataW H) → Nat
  | [] => 0
  | d :: r => uptoBulk d + uptoBulkAll r
def uptoBulkEntries {H : Type} : List (Lit × DataW H) → Nat
  | [] => 0
  | x :: r => uptoBulkEntry x + uptoBulkEntries r
def uptoBulkEntry {H : Type} : Lit × DataW H → Nat
  | (.string bytes, d) => bytes.length + uptoBulk d + 1
  | (_, d) => uptoBulk d + 1
 end
def uptoSmall : (H : Type) → List (DataW H) → Bool := fun _ ds => decide (uptoBulkAll ds ≤ 1048576)
def OpenSpec.upto (s : _root_.Go.ChangeSpec) : _root_.Go.OpenSpec := { _root_.Go.OpenSpec.ofChange s with cond := some uptoSmall }

/-- 'bolidelaw06.WatchPlaces', WHERE WHAT IT READS IS OF BULK AT MOST 1048576: true; the input reads as it did. -/
def watchPlacesUptoRow : OpenClaim := { program := "ytnaiaodnnmhdkaa", sum := "8c35b53ac733d34946bded942b9dbac324fc59aa89928b5d7a9842fd3ae19d86", func := "bolide/bolidelaw06.WatchPlaces", spec := "watchPlaces", unfollowed := true, recurses := true, apart := false, narrowed := true }
def WatchPlacesUptoSaid : Prop := watchPlacesUptoRow.holds Try.pinned (OpenSpec.upto watchPlacesSpec)

/-- 'bolidelaw06.WatchReads', WHERE WHAT IT READS IS OF BULK AT MOST 1048576: true; the input reads as it did. -/
def watchReadsUptoRow : OpenClaim := { program := "ytnaiaodnnmhdkaa", sum := "8c35b53ac733d34946bded942b9dbac324fc59aa89928b5d7a9842fd3ae19d86", func := "bolide/bolidelaw06.WatchReads", spec := "watchReads", unfollowed := true, recurses := true, apart := false, narrowed := true }
def WatchReadsUptoSaid : Prop := watchReadsUptoRow.holds Try.pinned (OpenSpec.upto watchReadsSpec)

/-- 'bolidelaw06.WatchApart', WHERE WHAT IT READS IS OF BULK AT MOST 1048576: true; the input reads as it did. -/
def watchApartUptoRow : OpenClaim := { program := "ytnaiaodnnmhdkaa", sum := "8c35b53ac733d34946bded942b9dbac324fc59aa89928b5d7a9842fd3ae19d86", func := "bolide/bolidelaw06.WatchApart", spec := "watchApart", unfollowed := true, recurses := true, apart := false, narrowed := true }
def WatchApartUptoSaid : Prop := watchApartUptoRow.holds Try.pinned (OpenSpec.upto watchApartSpec)

end Rows
end Go.Proofs.Ytnaiaodnnmhdkaa
