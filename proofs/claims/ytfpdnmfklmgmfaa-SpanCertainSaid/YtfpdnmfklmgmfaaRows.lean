/-
  No cell of these rows narrows 'for every input' (looked for: loops, veiled, ifaces, maps, wideKeys, modest, calm, conditions, laid).
  DERIVED. THE GIVEN ROWS OF THIS SEAT. 14 by the template 'for every input the law returns true; each argument reads behind the call as it read before'; 0 by the template 'total and deterministic' (their statements: YtfpdnmfklmgmfaaTotals.lean).
  GIVEN WITH THE SEED: the statements are not yours to turn. If you find one false, say at which input.
  Laid BY PROGRAM, IN A SANDBOX (cutbox-rows.mjs): the forced cells as the released guide's own fill.sh prints them over the translation cd0bbbeead0a6736… (all of the seat's roots in one cut). By AI agents, Wed Nov 11 2026. No macro, syntax, notation, axiom, sorry.
-/
import Derived.Test.YtfpdnmfklmgmfaaChecked
import GoSem.Claim
import GoSem.ClaimJoined
import GoSem.ClaimMapViews
import Derived.JoinedTies
import Derived.KernelRfl
namespace Go.Proofs.Ytfpdnmfklmgmfaa
/- THE CELL 'sum', in the pinned program and in every row, IS THE sha256 OF THE DUMP (.gsa) THAT YtfpdnmfklmgmfaaProg.lean LOADS. Nothing in Lean hashes anything: it is a label: what it is worth is what the hold of that sum in a sandbox is worth. -/
noncomputable def Try.pinned : Pinned := { name := "ytfpdnmfklmgmfaa", sum := "cd0bbbeead0a67366c947ff7a8929d3666dedfa9c896cc0cd4b9368edd0bea2c", checked := Try.checked }
namespace Rows
def none {H : Type} : Left H := { results := [], args := [] }

/-- 'bolidelaw01.SpanNear': WHATEVER THE INPUT: true; the input reads as it did. -/
def spanNearSpec : ChangeSpec := { name := "spanNear", fn := fun _ => fun
  | [d1, d2, d3] => { results := [.lit (.bool true)], args := [d1, d2, d3] }
  | _ => none }
def spanNearRow : OpenClaim := { program := "ytfpdnmfklmgmfaa", sum := "cd0bbbeead0a67366c947ff7a8929d3666dedfa9c896cc0cd4b9368edd0bea2c", func := "bolide/bolidelaw01.SpanNear", spec := "spanNear", unfollowed := true, recurses := true, named := ["math/bits.divideError", "math/bits.overflowError"], apart := false }
def SpanNearSaid : Prop := spanNearRow.holds Try.pinned (OpenSpec.ofChange spanNearSpec)

/-- ITS FALSE NEIGHBOUR: 'it returns false'. Refute it at one input. -/
def spanNearWrong : ChangeSpec := { name := "spanNear", fn := fun _ => fun
  | [d1, d2, d3] => { results := [.lit (.bool false)], args := [d1, d2, d3] }
  | _ => none }
def SpanNearWrongFalsely : Prop := spanNearRow.holds Try.pinned (OpenSpec.ofChange spanNearWrong)

/-- 'bolidelaw01.SpanMisses': WHATEVER THE INPUT: true; the input reads as it did. -/
def spanMissesSpec : ChangeSpec := { name := "spanMisses", fn := fun _ => fun
  | [d1, d2, d3, d4] => { results := [.lit (.bool true)], args := [d1, d2, d3, d4] }
  | _ => none }
def spanMissesRow : OpenClaim := { program := "ytfpdnmfklmgmfaa", sum := "cd0bbbeead0a67366c947ff7a8929d3666dedfa9c896cc0cd4b9368edd0bea2c", func := "bolide/bolidelaw01.SpanMisses", spec := "spanMisses", unfollowed := true, recurses := true, named := ["math/bits.divideError", "math/bits.overflowError"], apart := false }
def SpanMissesSaid : Prop := spanMissesRow.holds Try.pinned (OpenSpec.ofChange spanMissesSpec)

/-- ITS FALSE NEIGHBOUR: 'it returns false'. Refute it at one input. -/
def spanMissesWrong : ChangeSpec := { name := "spanMisses", fn := fun _ => fun
  | [d1, d2, d3, d4] => { results := [.lit (.bool false)], args := [d1, d2, d3, d4] }
  | _ => none }
def SpanMissesWrongFalsely : Prop := spanMissesRow.holds Try.pinned (OpenSpec.ofChange spanMissesWrong)

/-- 'bolidelaw01.SpanSigns': WHATEVER THE INPUT: true; the input reads as it did. -/
def spanSignsSpec : ChangeSpec := { name := "spanSigns", fn := fun _ => fun
  | [d1, d2] => { results := [.lit (.bool true)], args := [d1, d2] }
  | _ => none }
def spanSignsRow : OpenClaim := { program := "ytfpdnmfklmgmfaa", sum := "cd0bbbeead0a67366c947ff7a8929d3666dedfa9c896cc0cd4b9368edd0bea2c", func := "bolide/bolidelaw01.SpanSigns", spec := "spanSigns", unfollowed := true, recurses := true, named := ["math/bits.divideError", "math/bits.overflowError"], apart := false }
def SpanSignsSaid : Prop := spanSignsRow.holds Try.pinned (OpenSpec.ofChange spanSignsSpec)

/-- ITS FALSE NEIGHBOUR: 'it returns false'. Refute it at one input. -/
def spanSignsWrong : ChangeSpec := { name := "spanSigns", fn := fun _ => fun
  | [d1, d2] => { results := [.lit (.bool false)], args := [d1, d2] }
  | _ => none }
def SpanSignsWrongFalsely : Prop := spanSignsRow.holds Try.pinned (OpenSpec.ofChange spanSignsWrong)

/-- 'bolidelaw01.SpanTurns': WHATEVER THE INPUT: true; the input reads as it did. -/
def spanTurnsSpec : ChangeSpec := { name := "spanTurns", fn := fun _ => fun
  | [d1, d2] => { results := [.lit (.bool true)], args := [d1, d2] }
  | _ => none }
def spanTurnsRow : OpenClaim := { program := "ytfpdnmfklmgmfaa", sum := "cd0bbbeead0a67366c947ff7a8929d3666dedfa9c896cc0cd4b9368edd0bea2c", func := "bolide/bolidelaw01.SpanTurns", spec := "spanTurns", unfollowed := true, recurses := true, named := ["math/bits.divideError", "math/bits.overflowError"], apart := false }
def SpanTurnsSaid : Prop := spanTurnsRow.holds Try.pinned (OpenSpec.ofChange spanTurnsSpec)

/-- ITS FALSE NEIGHBOUR: 'it returns false'. Refute it at one input. -/
def spanTurnsWrong : ChangeSpec := { name := "spanTurns", fn := fun _ => fun
  | [d1, d2] => { results := [.lit (.bool false)], args := [d1, d2] }
  | _ => none }
def SpanTurnsWrongFalsely : Prop := spanTurnsRow.holds Try.pinned (OpenSpec.ofChange spanTurnsWrong)

/-- 'bolidelaw01.SpanDivides': WHATEVER THE INPUT: true; the input reads as it did. -/
def spanDividesSpec : ChangeSpec := { name := "spanDivides", fn := fun _ => fun
  | [d1, d2, d3, d4, d5] => { results := [.lit (.bool true)], args := [d1, d2, d3, d4, d5] }
  | _ => none }
def spanDividesRow : OpenClaim := { program := "ytfpdnmfklmgmfaa", sum := "cd0bbbeead0a67366c947ff7a8929d3666dedfa9c896cc0cd4b9368edd0bea2c", func := "bolide/bolidelaw01.SpanDivides", spec := "spanDivides", unfollowed := true, recurses := true, named := ["math/bits.divideError", "math/bits.overflowError"], apart := false }
def SpanDividesSaid : Prop := spanDividesRow.holds Try.pinned (OpenSpec.ofChange spanDividesSpec)

/-- ITS FALSE NEIGHBOUR: 'it returns false'. Refute it at one input. -/
def spanDividesWrong : ChangeSpec := { name := "spanDivides", fn := fun _ => fun
  | [d1, d2, d3, d4, d5] => { results := [.lit (.bool false)], args := [d1, d2, d3, d4, d5] }
  | _ => none }
def SpanDividesWrongFalsely : Prop := spanDividesRow.holds Try.pinned (OpenSpec.ofChange spanDividesWrong)

/-- 'bolidelaw01.SpanRounds': WHATEVER THE INPUT: true; the input reads as it did. -/
def spanRoundsSpec : ChangeSpec := { name := "spanRounds", fn := fun _ => fun
  | [d1, d2, d3, d4] => { results := [.lit (.bool true)], args := [d1, d2, d3, d4] }
  | _ => none }
def spanRoundsRow : OpenClaim := { program := "ytfpdnmfklmgmfaa", sum := "cd0bbbeead0a67366c947ff7a8929d3666dedfa9c896cc0cd4b9368edd0bea2c", func := "bolide/bolidelaw01.SpanRounds", spec := "spanRounds", unfollowed := true, recurses := true, named := ["math/bits.divideError", "math/bits.overflowError"], apart := false }
def SpanRoundsSaid : Prop := spanRoundsRow.holds Try.pinned (OpenSpec.ofChange spanRoundsSpec)

/-- ITS FALSE NEIGHBOUR: 'it returns false'. Refute it at one input. -/
def spanRoundsWrong : ChangeSpec := { name := "spanRounds", fn := fun _ => fun
  | [d1, d2, d3, d4] => { results := [.lit (.bool false)], args := [d1, d2, d3, d4] }
  | _ => none }
def SpanRoundsWrongFalsely : Prop := spanRoundsRow.holds Try.pinned (OpenSpec.ofChange spanRoundsWrong)

/-- 'bolidelaw01.SpanChecks': WHATEVER THE INPUT: true; the input reads as it did. -/
def spanChecksSpec : ChangeSpec := { name := "spanChecks", fn := fun _ => fun
  | [d1, d2, d3, d4] => { results := [.lit (.bool true)], args := [d1, d2, d3, d4] }
  | _ => none }
def spanChecksRow : OpenClaim := { program := "ytfpdnmfklmgmfaa", sum := "cd0bbbeead0a67366c947ff7a8929d3666dedfa9c896cc0cd4b9368edd0bea2c", func := "bolide/bolidelaw01.SpanChecks", spec := "spanChecks", unfollowed := true, recurses := true, named := ["math/bits.divideError", "math/bits.overflowError"], apart := false }
def SpanChecksSaid : Prop := spanChecksRow.holds Try.pinned (OpenSpec.ofChange spanChecksSpec)

/-- ITS FALSE NEIGHBOUR: 'it returns false'. Refute it at one input. -/
def spanChecksWrong : ChangeSpec := { name := "spanChecks", fn := fun _ => fun
  | [d1, d2, d3, d4] => { results := [.lit (.bool false)], args := [d1, d2, d3, d4] }
  | _ => none }
def SpanChecksWrongFalsely : Prop := spanChecksRow.holds Try.pinned (OpenSpec.ofChange spanChecksWrong)

/-- 'bolidelaw01.SpanParts': WHATEVER THE INPUT: true; the input reads as it did. -/
def spanPartsSpec : ChangeSpec := { name := "spanParts", fn := fun _ => fun
  | [d1, d2] => { results := [.lit (.bool true)], args := [d1, d2] }
  | _ => none }
def spanPartsRow : OpenClaim := { program := "ytfpdnmfklmgmfaa", sum := "cd0bbbeead0a67366c947ff7a8929d3666dedfa9c896cc0cd4b9368edd0bea2c", func := "bolide/bolidelaw01.SpanParts", spec := "spanParts", unfollowed := true, recurses := true, named := ["math/bits.divideError", "math/bits.overflowError"], apart := false }
def SpanPartsSaid : Prop := spanPartsRow.holds Try.pinned (OpenSpec.ofChange spanPartsSpec)

/-- ITS FALSE NEIGHBOUR: 'it returns false'. Refute it at one input. -/
def spanPartsWrong : ChangeSpec := { name := "spanParts", fn := fun _ => fun
  | [d1, d2] => { results := [.lit (.bool false)], args := [d1, d2] }
  | _ => none }
def SpanPartsWrongFalsely : Prop := spanPartsRow.holds Try.pinned (OpenSpec.ofChange spanPartsWrong)

/-- 'bolidelaw01.SpanAdds': WHATEVER THE INPUT: true; the input reads as it did. -/
def spanAddsSpec : ChangeSpec := { name := "spanAdds", fn := fun _ => fun
  | [d1, d2] => { results := [.lit (.bool true)], args := [d1, d2] }
  | _ => none }
def spanAddsRow : OpenClaim := { program := "ytfpdnmfklmgmfaa", sum := "cd0bbbeead0a67366c947ff7a8929d3666dedfa9c896cc0cd4b9368edd0bea2c", func := "bolide/bolidelaw01.SpanAdds", spec := "spanAdds", unfollowed := true, recurses := true, named := ["math/bits.divideError", "math/bits.overflowError"], apart := false }
def SpanAddsSaid : Prop := spanAddsRow.holds Try.pinned (OpenSpec.ofChange spanAddsSpec)

/-- ITS FALSE NEIGHBOUR: 'it returns false'. Refute it at one input. -/
def spanAddsWrong : ChangeSpec := { name := "spanAdds", fn := fun _ => fun
  | [d1, d2] => { results := [.lit (.bool false)], args := [d1, d2] }
  | _ => none }
def SpanAddsWrongFalsely : Prop := spanAddsRow.holds Try.pinned (OpenSpec.ofChange spanAddsWrong)

/-- 'bolidelaw01.SpanRoots': WHATEVER THE INPUT: true; the input reads as it did. -/
def spanRootsSpec : ChangeSpec := { name := "spanRoots", fn := fun _ => fun
  | [d1, d2] => { results := [.lit (.bool true)], args := [d1, d2] }
  | _ => none }
def spanRootsRow : OpenClaim := { program := "ytfpdnmfklmgmfaa", sum := "cd0bbbeead0a67366c947ff7a8929d3666dedfa9c896cc0cd4b9368edd0bea2c", func := "bolide/bolidelaw01.SpanRoots", spec := "spanRoots", unfollowed := true, recurses := true, named := ["math/bits.divideError", "math/bits.overflowError"], apart := false }
def SpanRootsSaid : Prop := spanRootsRow.holds Try.pinned (OpenSpec.ofChange spanRootsSpec)

/-- ITS FALSE NEIGHBOUR: 'it returns false'. Refute it at one input. -/
def spanRootsWrong : ChangeSpec := { name := "spanRoots", fn := fun _ => fun
  | [d1, d2] => { results := [.lit (.bool false)], args := [d1, d2] }
  | _ => none }
def SpanRootsWrongFalsely : Prop := spanRootsRow.holds Try.pinned (OpenSpec.ofChange spanRootsWrong)

/-- 'bolidelaw01.SpanSure': WHATEVER THE INPUT: true; the input reads as it did. -/
def spanSureSpec : ChangeSpec := { name := "spanSure", fn := fun _ => fun
  | [d1, d2, d3] => { results := [.lit (.bool true)], args := [d1, d2, d3] }
  | _ => none }
def spanSureRow : OpenClaim := { program := "ytfpdnmfklmgmfaa", sum := "cd0bbbeead0a67366c947ff7a8929d3666dedfa9c896cc0cd4b9368edd0bea2c", func := "bolide/bolidelaw01.SpanSure", spec := "spanSure", unfollowed := true, recurses := true, named := ["math/bits.divideError", "math/bits.overflowError"], apart := false }
def SpanSureSaid : Prop := spanSureRow.holds Try.pinned (OpenSpec.ofChange spanSureSpec)

/-- ITS FALSE NEIGHBOUR: 'it returns false'. Refute it at one input. -/
def spanSureWrong : ChangeSpec := { name := "spanSure", fn := fun _ => fun
  | [d1, d2, d3] => { results := [.lit (.bool false)], args := [d1, d2, d3] }
  | _ => none }
def SpanSureWrongFalsely : Prop := spanSureRow.holds Try.pinned (OpenSpec.ofChange spanSureWrong)

/-- 'bolidelaw01.SpanCertain': WHATEVER THE INPUT: true; the input reads as it did. -/
def spanCertainSpec : ChangeSpec := { name := "spanCertain", fn := fun _ => fun
  | [d1, d2] => { results := [.lit (.bool true)], args := [d1, d2] }
  | _ => none }
def spanCertainRow : OpenClaim := { program := "ytfpdnmfklmgmfaa", sum := "cd0bbbeead0a67366c947ff7a8929d3666dedfa9c896cc0cd4b9368edd0bea2c", func := "bolide/bolidelaw01.SpanCertain", spec := "spanCertain", unfollowed := true, recurses := true, named := ["math/bits.divideError", "math/bits.overflowError"], apart := false }
def SpanCertainSaid : Prop := spanCertainRow.holds Try.pinned (OpenSpec.ofChange spanCertainSpec)

/-- ITS FALSE NEIGHBOUR: 'it returns false'. Refute it at one input. -/
def spanCertainWrong : ChangeSpec := { name := "spanCertain", fn := fun _ => fun
  | [d1, d2] => { results := [.lit (.bool false)], args := [d1, d2] }
  | _ => none }
def SpanCertainWrongFalsely : Prop := spanCertainRow.holds Try.pinned (OpenSpec.ofChange spanCertainWrong)

/-- 'bolidelaw01.SpanEncloses': WHATEVER THE INPUT: true; the input reads as it did. -/
def spanEnclosesSpec : ChangeSpec := { name := "spanEncloses", fn := fun _ => fun
  | [d] => { results := [.lit (.bool true)], args := [d] }
  | _ => none }
def spanEnclosesRow : OpenClaim := { program := "ytfpdnmfklmgmfaa", sum := "cd0bbbeead0a67366c947ff7a8929d3666dedfa9c896cc0cd4b9368edd0bea2c", func := "bolide/bolidelaw01.SpanEncloses", spec := "spanEncloses", unfollowed := true, recurses := true, named := ["math/bits.divideError", "math/bits.overflowError"], apart := false }
def SpanEnclosesSaid : Prop := spanEnclosesRow.holds Try.pinned (OpenSpec.ofChange spanEnclosesSpec)

/-- ITS FALSE NEIGHBOUR: 'it returns false'. Refute it at one input. -/
def spanEnclosesWrong : ChangeSpec := { name := "spanEncloses", fn := fun _ => fun
  | [d] => { results := [.lit (.bool false)], args := [d] }
  | _ => none }
def SpanEnclosesWrongFalsely : Prop := spanEnclosesRow.holds Try.pinned (OpenSpec.ofChange spanEnclosesWrong)

/-- 'bolidelaw01.SpanGrows': WHATEVER THE INPUT: true; the input reads as it did. -/
def spanGrowsSpec : ChangeSpec := { name := "spanGrows", fn := fun _ => fun
  | [d1, d2, d3] => { results := [.lit (.bool true)], args := [d1, d2, d3] }
  | _ => none }
def spanGrowsRow : OpenClaim := { program := "ytfpdnmfklmgmfaa", sum := "cd0bbbeead0a67366c947ff7a8929d3666dedfa9c896cc0cd4b9368edd0bea2c", func := "bolide/bolidelaw01.SpanGrows", spec := "spanGrows", unfollowed := true, recurses := true, named := ["math/bits.divideError", "math/bits.overflowError"], apart := false }
def SpanGrowsSaid : Prop := spanGrowsRow.holds Try.pinned (OpenSpec.ofChange spanGrowsSpec)

/-- ITS FALSE NEIGHBOUR: 'it returns false'. Refute it at one input. -/
def spanGrowsWrong : ChangeSpec := { name := "spanGrows", fn := fun _ => fun
  | [d1, d2, d3] => { results := [.lit (.bool false)], args := [d1, d2, d3] }
  | _ => none }
def SpanGrowsWrongFalsely : Prop := spanGrowsRow.holds Try.pinned (OpenSpec.ofChange spanGrowsWrong)

/- THE SECOND FORM. 'bulk': how many values and letters a reading holds, each counted each time it is reached (what is shared counts as often as it is met; a slice's spare places count too). A statement '..UptoSaid' is the law's where the arguments, and the package variables that the reading takes, are together of bulk at most 1048576: NARROWER than '..Said'. Prove '..Said' where nothing that the law and all that it calls make is longer than what came in: it says more and counts as full. Else prove '..UptoSaid'. A law counts once. -/
mutual
def uptoBulk {H : Type} : DataW H → Nat
  | .lit (.string bytes) => bytes.length + 1
  | .lit _ => 1
  | .nil => 1
  | .ptr d => uptoBulk d + 1
  | .slice elems spare => uptoBulkAll elems + uptoBulkAll spare + 1
  | .agg parts => uptoBulkAll parts + 1
  | .iface _ d => uptoBulk d + 1
  | .map entries => uptoBulkEntries entries + 1
  | .held _ => 1
def uptoBulkAll {H : Type} : List (DataW H) → Nat
  | [] => 0
  | d :: r => uptoBulk d + uptoBulkAll r
def uptoBulkEntries {H : Type} : List (Lit × DataW H) → Nat
  | [] => 0
  | x :: r => uptoBulkEntry x + uptoBulkEntries r
def uptoBulkEntry {H : Type} : Lit × DataW H → Nat
  | (.string bytes, d) => bytes.length + uptoBulk d + 1
  | (_, d) => uptoBulk d + 1
 end
def uptoSmall : (H : Type) → List (DataW H) → Bool := fun _ ds => decide (uptoBulkAll ds ≤ 1048576)
def OpenSpec.upto (s : _root_.Go.ChangeSpec) : _root_.Go.OpenSpec := { _root_.Go.OpenSpec.ofChange s with cond := some uptoSmall }

/-- 'bolidelaw01.SpanNear', WHERE WHAT IT READS IS OF BULK AT MOST 1048576: true; the input reads as it did. -/
def spanNearUptoRow : OpenClaim := { program := "ytfpdnmfklmgmfaa", sum := "cd0bbbeead0a67366c947ff7a8929d3666dedfa9c896cc0cd4b9368edd0bea2c", func := "bolide/bolidelaw01.SpanNear", spec := "spanNear", unfollowed := true, recurses := true, named := ["math/bits.divideError", "math/bits.overflowError"], apart := false, narrowed := true }
def SpanNearUptoSaid : Prop := spanNearUptoRow.holds Try.pinned (OpenSpec.upto spanNearSpec)

/-- 'bolidelaw01.SpanMisses', WHERE WHAT IT READS IS OF BULK AT MOST 1048576: true; the input reads as it did. -/
def spanMissesUptoRow : OpenClaim := { program := "ytfpdnmfklmgmfaa", sum := "cd0bbbeead0a67366c947ff7a8929d3666dedfa9c896cc0cd4b9368edd0bea2c", func := "bolide/bolidelaw01.SpanMisses", spec := "spanMisses", unfollowed := true, recurses := true, named := ["math/bits.divideError", "math/bits.overflowError"], apart := false, narrowed := true }
def SpanMissesUptoSaid : Prop := spanMissesUptoRow.holds Try.pinned (OpenSpec.upto spanMissesSpec)

/-- 'bolidelaw01.SpanSigns', WHERE WHAT IT READS IS OF BULK AT MOST 1048576: true; the input reads as it did. -/
def spanSignsUptoRow : OpenClaim := { program := "ytfpdnmfklmgmfaa", sum := "cd0bbbeead0a67366c947ff7a8929d3666dedfa9c896cc0cd4b9368edd0bea2c", func := "bolide/bolidelaw01.SpanSigns", spec := "spanSigns", unfollowed := true, recurses := true, named := ["math/bits.divideError", "math/bits.overflowError"], apart := false, narrowed := true }
def SpanSignsUptoSaid : Prop := spanSignsUptoRow.holds Try.pinned (OpenSpec.upto spanSignsSpec)

/-- 'bolidelaw01.SpanTurns', WHERE WHAT IT READS IS OF BULK AT MOST 1048576: true; the input reads as it did. -/
def spanTurnsUptoRow : OpenClaim := { program := "ytfpdnmfklmgmfaa", sum := "cd0bbbeead0a67366c947ff7a8929d3666dedfa9c896cc0cd4b9368edd0bea2c", func := "bolide/bolidelaw01.SpanTurns", spec := "spanTurns", unfollowed := true, recurses := true, named := ["math/bits.divideError", "math/bits.overflowError"], apart := false, narrowed := true }
def SpanTurnsUptoSaid : Prop := spanTurnsUptoRow.holds Try.pinned (OpenSpec.upto spanTurnsSpec)

/-- 'bolidelaw01.SpanDivides', WHERE WHAT IT READS IS OF BULK AT MOST 1048576: true; the input reads as it did. -/
def spanDividesUptoRow : OpenClaim := { program := "ytfpdnmfklmgmfaa", sum := "cd0bbbeead0a67366c947ff7a8929d3666dedfa9c896cc0cd4b9368edd0bea2c", func := "bolide/bolidelaw01.SpanDivides", spec := "spanDivides", unfollowed := true, recurses := true, named := ["math/bits.divideError", "math/bits.overflowError"], apart := false, narrowed := true }
def SpanDividesUptoSaid : Prop := spanDividesUptoRow.holds Try.pinned (OpenSpec.upto spanDividesSpec)

/-- 'bolidelaw01.SpanRounds', WHERE WHAT IT READS IS OF BULK AT MOST 1048576: true; the input reads as it did. -/
def spanRoundsUptoRow : OpenClaim := { program := "ytfpdnmfklmgmfaa", sum := "cd0bbbeead0a67366c947ff7a8929d3666dedfa9c896cc0cd4b9368edd0bea2c", func := "bolide/bolidelaw01.SpanRounds", spec := "spanRounds", unfollowed := true, recurses := true, named := ["math/bits.divideError", "math/bits.overflowError"], apart := false, narrowed := true }
def SpanRoundsUptoSaid : Prop := spanRoundsUptoRow.holds Try.pinned (OpenSpec.upto spanRoundsSpec)

/-- 'bolidelaw01.SpanChecks', WHERE WHAT IT READS IS OF BULK AT MOST 1048576: true; the input reads as it did. -/
def spanChecksUptoRow : OpenClaim := { program := "ytfpdnmfklmgmfaa", sum := "cd0bbbeead0a67366c947ff7a8929d3666dedfa9c896cc0cd4b9368edd0bea2c", func := "bolide/bolidelaw01.SpanChecks", spec := "spanChecks", unfollowed := true, recurses := true, named := ["math/bits.divideError", "math/bits.overflowError"], apart := false, narrowed := true }
def SpanChecksUptoSaid : Prop := spanChecksUptoRow.holds Try.pinned (OpenSpec.upto spanChecksSpec)

/-- 'bolidelaw01.SpanParts', WHERE WHAT IT READS IS OF BULK AT MOST 1048576: true; the input reads as it did. -/
def spanPartsUptoRow : OpenClaim := { program := "ytfpdnmfklmgmfaa", sum := "cd0bbbeead0a67366c947ff7a8929d3666dedfa9c896cc0cd4b9368edd0bea2c", func := "bolide/bolidelaw01.SpanParts", spec := "spanParts", unfollowed := true, recurses := true, named := ["math/bits.divideError", "math/bits.overflowError"], apart := false, narrowed := true }
def SpanPartsUptoSaid : Prop := spanPartsUptoRow.holds Try.pinned (OpenSpec.upto spanPartsSpec)

/-- 'bolidelaw01.SpanAdds', WHERE WHAT IT READS IS OF BULK AT MOST 1048576: true; the input reads as it did. -/
def spanAddsUptoRow : OpenClaim := { program := "ytfpdnmfklmgmfaa", sum := "cd0bbbeead0a67366c947ff7a8929d3666dedfa9c896cc0cd4b9368edd0bea2c", func := "bolide/bolidelaw01.SpanAdds", spec := "spanAdds", unfollowed := true, recurses := true, named := ["math/bits.divideError", "math/bits.overflowError"], apart := false, narrowed := true }
def SpanAddsUptoSaid : Prop := spanAddsUptoRow.holds Try.pinned (OpenSpec.upto spanAddsSpec)

/-- 'bolidelaw01.SpanRoots', WHERE WHAT IT READS IS OF BULK AT MOST 1048576: true; the input reads as it did. -/
def spanRootsUptoRow : OpenClaim := { program := "ytfpdnmfklmgmfaa", sum := "cd0bbbeead0a67366c947ff7a8929d3666dedfa9c896cc0cd4b9368edd0bea2c", func := "bolide/bolidelaw01.SpanRoots", spec := "spanRoots", unfollowed := true, recurses := true, named := ["math/bits.divideError", "math/bits.overflowError"], apart := false, narrowed := true }
def SpanRootsUptoSaid : Prop := spanRootsUptoRow.holds Try.pinned (OpenSpec.upto spanRootsSpec)

/-- 'bolidelaw01.SpanSure', WHERE WHAT IT READS IS OF BULK AT MOST 1048576: true; the input reads as it did. -/
def spanSureUptoRow : OpenClaim := { program := "ytfpdnmfklmgmfaa", sum := "cd0bbbeead0a67366c947ff7a8929d3666dedfa9c896cc0cd4b9368edd0bea2c", func := "bolide/bolidelaw01.SpanSure", spec := "spanSure", unfollowed := true, recurses := true, named := ["math/bits.divideError", "math/bits.overflowError"], apart := false, narrowed := true }
def SpanSureUptoSaid : Prop := spanSureUptoRow.holds Try.pinned (OpenSpec.upto spanSureSpec)

/-- 'bolidelaw01.SpanCertain', WHERE WHAT IT READS IS OF BULK AT MOST 1048576: true; the input reads as it did. -/
def spanCertainUptoRow : OpenClaim := { program := "ytfpdnmfklmgmfaa", sum := "cd0bbbeead0a67366c947ff7a8929d3666dedfa9c896cc0cd4b9368edd0bea2c", func := "bolide/bolidelaw01.SpanCertain", spec := "spanCertain", unfollowed := true, recurses := true, named := ["math/bits.divideError", "math/bits.overflowError"], apart := false, narrowed := true }
def SpanCertainUptoSaid : Prop := spanCertainUptoRow.holds Try.pinned (OpenSpec.upto spanCertainSpec)

/-- 'bolidelaw01.SpanEncloses', WHERE WHAT IT READS IS OF BULK AT MOST 1048576: true; the input reads as it did. -/
def spanEnclosesUptoRow : OpenClaim := { program := "ytfpdnmfklmgmfaa", sum := "cd0bbbeead0a67366c947ff7a8929d3666dedfa9c896cc0cd4b9368edd0bea2c", func := "bolide/bolidelaw01.SpanEncloses", spec := "spanEncloses", unfollowed := true, recurses := true, named := ["math/bits.divideError", "math/bits.overflowError"], apart := false, narrowed := true }
def SpanEnclosesUptoSaid : Prop := spanEnclosesUptoRow.holds Try.pinned (OpenSpec.upto spanEnclosesSpec)

/-- 'bolidelaw01.SpanGrows', WHERE WHAT IT READS IS OF BULK AT MOST 1048576: true; the input reads as it did. -/
def spanGrowsUptoRow : OpenClaim := { program := "ytfpdnmfklmgmfaa", sum := "cd0bbbeead0a67366c947ff7a8929d3666dedfa9c896cc0cd4b9368edd0bea2c", func := "bolide/bolidelaw01.SpanGrows", spec := "spanGrows", unfollowed := true, recurses := true, named := ["math/bits.divideError", "math/bits.overflowError"], apart := false, narrowed := true }
def SpanGrowsUptoSaid : Prop := spanGrowsUptoRow.holds Try.pinned (OpenSpec.upto spanGrowsSpec)

end Rows
end Go.Proofs.Ytfpdnmfklmgmfaa
