/-
  No cell of these rows narrows 'for every input' (looked for: loops, veiled, ifaces, maps, wideKeys, modest, calm, conditions, laid).
  DERIVED. THE GIVEN ROWS OF THIS SEAT. 4 by the template 'for every input the law returns true; each argument reads behind the call as it read before'; 0 by the template 'total and deterministic' (their statements: YtbcgdhldkanecaaGreatTotals.lean).
  GIVEN WITH THE SEED: the statements are not yours to turn. If you find one false, say at which input.
  Laid BY PROGRAM, IN A SANDBOX (cutbox-rows.mjs): the forced cells as the released guide's own fill.sh prints them over the translation 4caab2df27aa68d8… (all of the seat's roots in one cut). By AI agents, Wed Nov 11 2026. No macro, syntax, notation, axiom, sorry.
-/
import Derived.Test.YtbcgdhldkanecaaGreatChecked
import GoSem.Claim
import GoSem.ClaimJoined
import GoSem.ClaimMapViews
import Derived.JoinedTies
import Derived.KernelRfl
namespace Go.Proofs.YtbcgdhldkanecaaGreat
/- THE CELL 'sum', in the pinned program and in every row, IS THE sha256 OF THE DUMP (.gsa) THAT YtbcgdhldkanecaaGreatProg.lean LOADS. Nothing in Lean hashes anything: it is a label: what it is worth is what the hold of that sum in a sandbox is worth. -/
noncomputable def Tryz.pinned : Pinned := { name := "ytbcgdhldkanecaagreat", sum := "4caab2df27aa68d864c07423a2b4790499ddae556048683a07dd2fe1bad0ced4", checked := Tryz.checked }
namespace Rows
def none {H : Type} : Left H := { results := [], args := [] }

/-- 'bolidelaw03.ForcePulls': WHATEVER THE INPUT: true; the input reads as it did. -/
def forcePullsSpec : ChangeSpec := { name := "forcePulls", fn := fun _ => fun
  | [d1, d2, d3, d4, d5, d6] => { results := [.lit (.bool true)], args := [d1, d2, d3, d4, d5, d6] }
  | _ => none }
def forcePullsRow : OpenClaim := { program := "ytbcgdhldkanecaagreat", sum := "4caab2df27aa68d864c07423a2b4790499ddae556048683a07dd2fe1bad0ced4", func := "bolide/bolidelaw03.ForcePulls", spec := "forcePulls", unfollowed := true, recurses := true, named := ["math/bits.divideError", "math/bits.overflowError"], apart := false }
def ForcePullsSaid : Prop := forcePullsRow.holds Tryz.pinned (OpenSpec.ofChange forcePullsSpec)

/-- ITS FALSE NEIGHBOUR: 'it returns false'. Refute it at one input. -/
def forcePullsWrong : ChangeSpec := { name := "forcePulls", fn := fun _ => fun
  | [d1, d2, d3, d4, d5, d6] => { results := [.lit (.bool false)], args := [d1, d2, d3, d4, d5, d6] }
  | _ => none }
def ForcePullsWrongFalsely : Prop := forcePullsRow.holds Tryz.pinned (OpenSpec.ofChange forcePullsWrong)

/-- 'bolidelaw03.ForceMoves': WHATEVER THE INPUT: true; the input reads as it did. -/
def forceMovesSpec : ChangeSpec := { name := "forceMoves", fn := fun _ => fun
  | [d1, d2, d3, d4, d5, d6] => { results := [.lit (.bool true)], args := [d1, d2, d3, d4, d5, d6] }
  | _ => none }
def forceMovesRow : OpenClaim := { program := "ytbcgdhldkanecaagreat", sum := "4caab2df27aa68d864c07423a2b4790499ddae556048683a07dd2fe1bad0ced4", func := "bolide/bolidelaw03.ForceMoves", spec := "forceMoves", unfollowed := true, recurses := true, named := ["math/bits.divideError", "math/bits.overflowError"], apart := false }
def ForceMovesSaid : Prop := forceMovesRow.holds Tryz.pinned (OpenSpec.ofChange forceMovesSpec)

/-- ITS FALSE NEIGHBOUR: 'it returns false'. Refute it at one input. -/
def forceMovesWrong : ChangeSpec := { name := "forceMoves", fn := fun _ => fun
  | [d1, d2, d3, d4, d5, d6] => { results := [.lit (.bool false)], args := [d1, d2, d3, d4, d5, d6] }
  | _ => none }
def ForceMovesWrongFalsely : Prop := forceMovesRow.holds Tryz.pinned (OpenSpec.ofChange forceMovesWrong)

/-- 'bolidelaw03.ForceDrifts': WHATEVER THE INPUT: true; the input reads as it did. -/
def forceDriftsSpec : ChangeSpec := { name := "forceDrifts", fn := fun _ => fun
  | [d1, d2, d3, d4, d5] => { results := [.lit (.bool true)], args := [d1, d2, d3, d4, d5] }
  | _ => none }
def forceDriftsRow : OpenClaim := { program := "ytbcgdhldkanecaagreat", sum := "4caab2df27aa68d864c07423a2b4790499ddae556048683a07dd2fe1bad0ced4", func := "bolide/bolidelaw03.ForceDrifts", spec := "forceDrifts", unfollowed := true, recurses := true, named := ["math/bits.divideError", "math/bits.overflowError"], apart := false }
def ForceDriftsSaid : Prop := forceDriftsRow.holds Tryz.pinned (OpenSpec.ofChange forceDriftsSpec)

/-- ITS FALSE NEIGHBOUR: 'it returns false'. Refute it at one input. -/
def forceDriftsWrong : ChangeSpec := { name := "forceDrifts", fn := fun _ => fun
  | [d1, d2, d3, d4, d5] => { results := [.lit (.bool false)], args := [d1, d2, d3, d4, d5] }
  | _ => none }
def ForceDriftsWrongFalsely : Prop := forceDriftsRow.holds Tryz.pinned (OpenSpec.ofChange forceDriftsWrong)

/-- 'bolidelaw03.ForceRules': WHATEVER THE INPUT: true; the input reads as it did. -/
def forceRulesSpec : ChangeSpec := { name := "forceRules", fn := fun _ => fun
  | [d1, d2, d3, d4, d5] => { results := [.lit (.bool true)], args := [d1, d2, d3, d4, d5] }
  | _ => none }
def forceRulesRow : OpenClaim := { program := "ytbcgdhldkanecaagreat", sum := "4caab2df27aa68d864c07423a2b4790499ddae556048683a07dd2fe1bad0ced4", func := "bolide/bolidelaw03.ForceRules", spec := "forceRules", unfollowed := true, recurses := true, named := ["math/bits.divideError", "math/bits.overflowError"], apart := false }
def ForceRulesSaid : Prop := forceRulesRow.holds Tryz.pinned (OpenSpec.ofChange forceRulesSpec)

/-- ITS FALSE NEIGHBOUR: 'it returns false'. Refute it at one input. -/
def forceRulesWrong : ChangeSpec := { name := "forceRules", fn := fun _ => fun
  | [d1, d2, d3, d4, d5] => { results := [.lit (.bool false)], args := [d1, d2, d3, d4, d5] }
  | _ => none }
def ForceRulesWrongFalsely : Prop := forceRulesRow.holds Tryz.pinned (OpenSpec.ofChange forceRulesWrong)

/- THE SECOND FORM. 'bulk': how many values and letters a reading holds, each counted each time it is reached (what is shared counts as often as it is met; a slice's spare places count too). A statement '..UptoSaid' is the law's where the arguments, and the package variables that the reading takes, are together of bulk at most 1048576: NARROWER than '..Said'. Prove '..Said' where nothing that the law and all that it calls make is longer than what came in: it says more and counts as full. Else prove '..UptoSaid'. A law counts once. -/
mutual
def uptoBulk {H : Type} : DataW H → Nat
  | .lit (.string bytes) => bytes.length + 1
  | .lit _ => 1
  | .nil => 1
  | .ptr d => uptoBulk d + 1
  | .slice elems spare => uptoBulkAll elems + uptoBulkAll spare + 1
  | .agg parts => uptoBulkAll parts + 1
  | .iface _ d => uptoBulk d + 1
  | .map entries => uptoBulkEntries entries + 1
  | .held _ => 1
def uptoBulkAll {H : Type} : List (DataW H) → Nat
  | [] => 0
  | d :: r => uptoBulk d + uptoBulkAll r
def uptoBulkEntries {H : Type} : List (Lit × DataW H) → Nat
  | [] => 0
  | x :: r => uptoBulkEntry x + uptoBulkEntries r
def uptoBulkEntry {H : Type} : Lit × DataW H → Nat
  | (.string bytes, d) => bytes.length + uptoBulk d + 1
  | (_, d) => uptoBulk d + 1
 end
def uptoSmall : (H : Type) → List (DataW H) → Bool := fun _ ds => decide (uptoBulkAll ds ≤ 1048576)
def OpenSpec.upto (s : _root_.Go.ChangeSpec) : _root_.Go.OpenSpec := { _root_.Go.OpenSpec.ofChange s with cond := some uptoSmall }

/-- 'bolidelaw03.ForcePulls', WHERE WHAT IT READS IS OF BULK AT MOST 1048576: true; the input reads as it did. -/
def forcePullsUptoRow : OpenClaim := { program := "ytbcgdhldkanecaagreat", sum := "4caab2df27aa68d864c07423a2b4790499ddae556048683a07dd2fe1bad0ced4", func := "bolide/bolidelaw03.ForcePulls", spec := "forcePulls", unfollowed := true, recurses := true, named := ["math/bits.divideError", "math/bits.overflowError"], apart := false, narrowed := true }
def ForcePullsUptoSaid : Prop := forcePullsUptoRow.holds Tryz.pinned (OpenSpec.upto forcePullsSpec)

/-- 'bolidelaw03.ForceMoves', WHERE WHAT IT READS IS OF BULK AT MOST 1048576: true; the input reads as it did. -/
def forceMovesUptoRow : OpenClaim := { program := "ytbcgdhldkanecaagreat", sum := "4caab2df27aa68d864c07423a2b4790499ddae556048683a07dd2fe1bad0ced4", func := "bolide/bolidelaw03.ForceMoves", spec := "forceMoves", unfollowed := true, recurses := true, named := ["math/bits.divideError", "math/bits.overflowError"], apart := false, narrowed := true }
def ForceMovesUptoSaid : Prop := forceMovesUptoRow.holds Tryz.pinned (OpenSpec.upto forceMovesSpec)

/-- 'bolidelaw03.ForceDrifts', WHERE WHAT IT READS IS OF BULK AT MOST 1048576: true; the input reads as it did. -/
def forceDriftsUptoRow : OpenClaim := { program := "ytbcgdhldkanecaagreat", sum := "4caab2df27aa68d864c07423a2b4790499ddae556048683a07dd2fe1bad0ced4", func := "bolide/bolidelaw03.ForceDrifts", spec := "forceDrifts", unfollowed := true, recurses := true, named := ["math/bits.divideError", "math/bits.overflowError"], apart := false, narrowed := true }
def ForceDriftsUptoSaid : Prop := forceDriftsUptoRow.holds Tryz.pinned (OpenSpec.upto forceDriftsSpec)

/-- 'bolidelaw03.ForceRules', WHERE WHAT IT READS IS OF BULK AT MOST 1048576: true; the input reads as it did. -/
def forceRulesUptoRow : OpenClaim := { program := "ytbcgdhldkanecaagreat", sum := "4caab2df27aa68d864c07423a2b4790499ddae556048683a07dd2fe1bad0ced4", func := "bolide/bolidelaw03.ForceRules", spec := "forceRules", unfollowed := true, recurses := true, named := ["math/bits.divideError", "math/bits.overflowError"], apart := false, narrowed := true }
def ForceRulesUptoSaid : Prop := forceRulesUptoRow.holds Tryz.pinned (OpenSpec.upto forceRulesSpec)

end Rows
end Go.Proofs.YtbcgdhldkanecaaGreat
