/-
  No cell of these rows narrows 'for every input' (looked for: loops, veiled, ifaces, maps, wideKeys, modest, calm, conditions, laid).
  DERIVED. THE GIVEN ROWS OF THIS SEAT. 5 by the template 'for every input the law returns true; each argument reads behind the call as it read before'; 0 by the template 'total and deterministic' (their statements: YteafglginnonnaaGreatTotals.lean).
  GIVEN WITH THE SEED: the statements are not yours to turn. If you find one false, say at which input.
  Laid BY PROGRAM, IN A SANDBOX (cutbox-rows.mjs): the forced cells as the released guide's own fill.sh prints them over the translation a1daa8777dc68d1e… (all of the seat's roots in one cut). By AI agents, Wed Nov 11 2026. No macro, syntax, notation, axiom, sorry.
-/
import Derived.Test.YteafglginnonnaaGreatChecked
import GoSem.Claim
import GoSem.ClaimJoined
import GoSem.ClaimMapViews
import Derived.JoinedTies
import Derived.KernelRfl
namespace Go.Proofs.YteafglginnonnaaGreat
/- THE CELL 'sum', in the pinned program and in every row, IS THE sha256 OF THE DUMP (.gsa) THAT YteafglginnonnaaGreatProg.lean LOADS. Nothing in Lean hashes anything: it is a label: what it is worth is what the hold of that sum in a sandbox is worth. -/
noncomputable def Tryz.pinned : Pinned := { name := "yteafglginnonnaagreat", sum := "a1daa8777dc68d1ed65a1b28ea76376ebb22787455b985db271d3698d065baf9", checked := Tryz.checked }
namespace Rows
def none {H : Type} : Left H := { results := [], args := [] }

/-- 'bolidelaw06.WatchMore': WHATEVER THE INPUT: true; the input reads as it did. -/
def watchMoreSpec : ChangeSpec := { name := "watchMore", fn := fun _ => fun
  | [d1, d2, d3, d4] => { results := [.lit (.bool true)], args := [d1, d2, d3, d4] }
  | _ => none }
def watchMoreRow : OpenClaim := { program := "yteafglginnonnaagreat", sum := "a1daa8777dc68d1ed65a1b28ea76376ebb22787455b985db271d3698d065baf9", func := "bolide/bolidelaw06.WatchMore", spec := "watchMore", unfollowed := true, recurses := true, named := ["math/bits.divideError", "math/bits.overflowError"], plainKeys := false, apart := false }
def WatchMoreSaid : Prop := watchMoreRow.holds Tryz.pinned (OpenSpec.ofChange watchMoreSpec)

/-- ITS FALSE NEIGHBOUR: 'it returns false'. Refute it at one input. -/
def watchMoreWrong : ChangeSpec := { name := "watchMore", fn := fun _ => fun
  | [d1, d2, d3, d4] => { results := [.lit (.bool false)], args := [d1, d2, d3, d4] }
  | _ => none }
def WatchMoreWrongFalsely : Prop := watchMoreRow.holds Tryz.pinned (OpenSpec.ofChange watchMoreWrong)

/-- 'bolidelaw06.WatchKnown': WHATEVER THE INPUT: true; the input reads as it did. -/
def watchKnownSpec : ChangeSpec := { name := "watchKnown", fn := fun _ => fun
  | [] => { results := [.lit (.bool true)], args := [] }
  | _ => none }
def watchKnownRow : OpenClaim := { program := "yteafglginnonnaagreat", sum := "a1daa8777dc68d1ed65a1b28ea76376ebb22787455b985db271d3698d065baf9", func := "bolide/bolidelaw06.WatchKnown", spec := "watchKnown", unfollowed := true, recurses := true, named := ["math/bits.divideError", "math/bits.overflowError"], plainKeys := false, apart := false }
def WatchKnownSaid : Prop := watchKnownRow.holds Tryz.pinned (OpenSpec.ofChange watchKnownSpec)

/-- ITS FALSE NEIGHBOUR: 'it returns false'. Refute it at one input. -/
def watchKnownWrong : ChangeSpec := { name := "watchKnown", fn := fun _ => fun
  | [] => { results := [.lit (.bool false)], args := [] }
  | _ => none }
def WatchKnownWrongFalsely : Prop := watchKnownRow.holds Tryz.pinned (OpenSpec.ofChange watchKnownWrong)

/-- 'bolidelaw06.WatchBest': WHATEVER THE INPUT: true; the input reads as it did. -/
def watchBestSpec : ChangeSpec := { name := "watchBest", fn := fun _ => fun
  | [d1, d2, d3, d4, d5, d6, d7, d8] => { results := [.lit (.bool true)], args := [d1, d2, d3, d4, d5, d6, d7, d8] }
  | _ => none }
def watchBestRow : OpenClaim := { program := "yteafglginnonnaagreat", sum := "a1daa8777dc68d1ed65a1b28ea76376ebb22787455b985db271d3698d065baf9", func := "bolide/bolidelaw06.WatchBest", spec := "watchBest", unfollowed := true, recurses := true, named := ["math/bits.divideError", "math/bits.overflowError"], plainKeys := false, apart := false }
def WatchBestSaid : Prop := watchBestRow.holds Tryz.pinned (OpenSpec.ofChange watchBestSpec)

/-- ITS FALSE NEIGHBOUR: 'it returns false'. Refute it at one input. -/
def watchBestWrong : ChangeSpec := { name := "watchBest", fn := fun _ => fun
  | [d1, d2, d3, d4, d5, d6, d7, d8] => { results := [.lit (.bool false)], args := [d1, d2, d3, d4, d5, d6, d7, d8] }
  | _ => none }
def WatchBestWrongFalsely : Prop := watchBestRow.holds Tryz.pinned (OpenSpec.ofChange watchBestWrong)

/-- 'bolidelaw06.WatchPrinted': WHATEVER THE INPUT: true; the input reads as it did. -/
def watchPrintedSpec : ChangeSpec := { name := "watchPrinted", fn := fun _ => fun
  | [d1, d2] => { results := [.lit (.bool true)], args := [d1, d2] }
  | _ => none }
def watchPrintedRow : OpenClaim := { program := "yteafglginnonnaagreat", sum := "a1daa8777dc68d1ed65a1b28ea76376ebb22787455b985db271d3698d065baf9", func := "bolide/bolidelaw06.WatchPrinted", spec := "watchPrinted", unfollowed := true, recurses := true, named := ["math/bits.divideError", "math/bits.overflowError"], plainKeys := false, apart := false }
def WatchPrintedSaid : Prop := watchPrintedRow.holds Tryz.pinned (OpenSpec.ofChange watchPrintedSpec)

/-- ITS FALSE NEIGHBOUR: 'it returns false'. Refute it at one input. -/
def watchPrintedWrong : ChangeSpec := { name := "watchPrinted", fn := fun _ => fun
  | [d1, d2] => { results := [.lit (.bool false)], args := [d1, d2] }
  | _ => none }
def WatchPrintedWrongFalsely : Prop := watchPrintedRow.holds Tryz.pinned (OpenSpec.ofChange watchPrintedWrong)

/-- 'bolidelaw06.WatchBudget': WHATEVER THE INPUT: true; the input reads as it did. -/
def watchBudgetSpec : ChangeSpec := { name := "watchBudget", fn := fun _ => fun
  | [d1, d2, d3, d4] => { results := [.lit (.bool true)], args := [d1, d2, d3, d4] }
  | _ => none }
def watchBudgetRow : OpenClaim := { program := "yteafglginnonnaagreat", sum := "a1daa8777dc68d1ed65a1b28ea76376ebb22787455b985db271d3698d065baf9", func := "bolide/bolidelaw06.WatchBudget", spec := "watchBudget", unfollowed := true, recurses := true, named := ["math/bits.divideError", "math/bits.overflowError"], plainKeys := false, apart := false }
def WatchBudgetSaid : Prop := watchBudgetRow.holds Tryz.pinned (OpenSpec.ofChange watchBudgetSpec)

/-- ITS FALSE NEIGHBOUR: 'it returns false'. Refute it at one input. -/
def watchBudgetWrong : ChangeSpec := { name := "watchBudget", fn := fun _ => fun
  | [d1, d2, d3, d4] => { results := [.lit (.bool false)], args := [d1, d2, d3, d4] }
  | _ => none }
def WatchBudgetWrongFalsely : Prop := watchBudgetRow.holds Tryz.pinned (OpenSpec.ofChange watchBudgetWrong)

/- THE SECOND FORM. 'bulk': how many values and letters a reading holds, each counted each time it is reached (what is shared counts as often as it is met; a slice's spare places count too). A statement '..UptoSaid' is the law's where the arguments, and the package variables that the reading takes, are together of bulk at most 1048576: NARROWER than '..Said'. Prove '..Said' where nothing that the law and all that it calls make is longer than what came in: it says more and counts as full. Else prove '..UptoSaid'. A law counts once. -/
mutual
def uptoBulk {H : Type} : DataW H → Nat
  | .lit (.string bytes) => bytes.length + 1
  | .lit _ => 1
  | .nil => 1
  | .ptr d => uptoBulk d + 1
  | .slice elems spare => uptoBulkAll elems + uptoBulkAll spare + 1
  | .agg parts => uptoBulkAll parts + 1
  | .iface _ d => uptoBulk d + 1
  | .map entries => uptoBulkEntries entries + 1
  | .held _ => 1
def uptoBulkAll {H : Type} : List (DataW H) → Nat
  | [] => 0
  | d :: r => uptoBulk d + uptoBulkAll r
def uptoBulkEntries {H : Type} : List (Lit × DataW H) → Nat
  | [] => 0
  | x :: r => uptoBulkEntry x + uptoBulkEntries r
def uptoBulkEntry {H : Type} : Lit × DataW H → Nat
  | (.string bytes, d) => bytes.length + uptoBulk d + 1
  | (_, d) => uptoBulk d + 1
 end
def uptoSmall : (H : Type) → List (DataW H) → Bool := fun _ ds => decide (uptoBulkAll ds ≤ 1048576)
def OpenSpec.upto (s : _root_.Go.ChangeSpec) : _root_.Go.OpenSpec := { _root_.Go.OpenSpec.ofChange s with cond := some uptoSmall }

/-- 'bolidelaw06.WatchMore', WHERE WHAT IT READS IS OF BULK AT MOST 1048576: true; the input reads as it did. -/
def watchMoreUptoRow : OpenClaim := { program := "yteafglginnonnaagreat", sum := "a1daa8777dc68d1ed65a1b28ea76376ebb22787455b985db271d3698d065baf9", func := "bolide/bolidelaw06.WatchMore", spec := "watchMore", unfollowed := true, recurses := true, named := ["math/bits.divideError", "math/bits.overflowError"], plainKeys := false, apart := false, narrowed := true }
def WatchMoreUptoSaid : Prop := watchMoreUptoRow.holds Tryz.pinned (OpenSpec.upto watchMoreSpec)

/-- 'bolidelaw06.WatchKnown', WHERE WHAT IT READS IS OF BULK AT MOST 1048576: true; the input reads as it did. -/
def watchKnownUptoRow : OpenClaim := { program := "yteafglginnonnaagreat", sum := "a1daa8777dc68d1ed65a1b28ea76376ebb22787455b985db271d3698d065baf9", func := "bolide/bolidelaw06.WatchKnown", spec := "watchKnown", unfollowed := true, recurses := true, named := ["math/bits.divideError", "math/bits.overflowError"], plainKeys := false, apart := false, narrowed := true }
def WatchKnownUptoSaid : Prop := watchKnownUptoRow.holds Tryz.pinned (OpenSpec.upto watchKnownSpec)

/-- 'bolidelaw06.WatchBest', WHERE WHAT IT READS IS OF BULK AT MOST 1048576: true; the input reads as it did. -/
def watchBestUptoRow : OpenClaim := { program := "yteafglginnonnaagreat", sum := "a1daa8777dc68d1ed65a1b28ea76376ebb22787455b985db271d3698d065baf9", func := "bolide/bolidelaw06.WatchBest", spec := "watchBest", unfollowed := true, recurses := true, named := ["math/bits.divideError", "math/bits.overflowError"], plainKeys := false, apart := false, narrowed := true }
def WatchBestUptoSaid : Prop := watchBestUptoRow.holds Tryz.pinned (OpenSpec.upto watchBestSpec)

/-- 'bolidelaw06.WatchPrinted', WHERE WHAT IT READS IS OF BULK AT MOST 1048576: true; the input reads as it did. -/
def watchPrintedUptoRow : OpenClaim := { program := "yteafglginnonnaagreat", sum := "a1daa8777dc68d1ed65a1b28ea76376ebb22787455b985db271d3698d065baf9", func := "bolide/bolidelaw06.WatchPrinted", spec := "watchPrinted", unfollowed := true, recurses := true, named := ["math/bits.divideError", "math/bits.overflowError"], plainKeys := false, apart := false, narrowed := true }
def WatchPrintedUptoSaid : Prop := watchPrintedUptoRow.holds Tryz.pinned (OpenSpec.upto watchPrintedSpec)

/-- 'bolidelaw06.WatchBudget', WHERE WHAT IT READS IS OF BULK AT MOST 1048576: true; the input reads as it did. -/
def watchBudgetUptoRow : OpenClaim := { program := "yteafglginnonnaagreat", sum := "a1daa8777dc68d1ed65a1b28ea76376ebb22787455b985db271d3698d065baf9", func := "bolide/bolidelaw06.WatchBudget", spec := "watchBudget", unfollowed := true, recurses := true, named := ["math/bits.divideError", "math/bits.overflowError"], plainKeys := false, apart := false, narrowed := true }
def WatchBudgetUptoSaid : Prop := watchBudgetUptoRow.holds Tryz.pinned (OpenSpec.upto watchBudgetSpec)

end Rows
end Go.Proofs.YteafglginnonnaaGreat
